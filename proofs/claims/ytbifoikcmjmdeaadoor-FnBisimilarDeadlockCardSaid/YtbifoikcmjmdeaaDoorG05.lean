/- impl.movesOf, walked. | impl.greatestRelation, walked. | spec.l15Relate, walked. | Validity of systems: what it calls. | Validity of systems. | Validity of systems, the reference's own. | impl.sameAlphabets and spec.l6Comparable, walked. | Bisimilar, Simulates and SimilarStates of the program and of the reference, walked: both compute the greatest relation. -/
import Derived.Test.YtbifoikcmjmdeaaDoorG03
import Derived.Test.YtbifoikcmjmdeaaDoorG02
import Derived.StillTailTactics
import Derived.Deep.RegionHeld3
import Derived.Test.YtbifoikcmjmdeaaDoorG04
namespace Go.Proofs.YtbifoikcmjmdeaaDoor
open Go Go.RowKit
set_option maxHeartbeats 2000000

/-- The block b is a table of the moves of these edges. -/
def MovB (w : World) (b : Nat) (es : List Edg) : Prop := ∃ cs, Blk w b 89 cs ∧ ∀ i l : Nat, i < 16 → l < 6 → cs[i * 6 + l]? = some (.int .i64 (succ es i l : Nat))
theorem MovB.at_ {w : World} {b : Nat} {es : List Edg} (h : MovB w b es) : MovAt w b es := by
  obtain ⟨cs, hb, hc⟩ := h
  exact fun i l hi hl => by rw [hb.cell, hc i l hi hl]
theorem MovB.ext {w w' : World} {b : Nat} {es : List Edg} (h : MovB w b es) (hx : Ext w w') : MovB w' b es := by
  obtain ⟨cs, hb, hc⟩ := h
  exact ⟨cs, hb.ext hx, hc⟩

theorem zero_mov (w : World) : (zeroValue 89).run Tryd.prog w = .ok (.agg (Array.replicate 96 (.int .i64 0))) w := by kernel_rfl

theorem wrap_pow {t : Nat} (ht : t < 32) : wrap64 ((2 : Int) ^ t) = ((2 ^ t : Nat) : Int) := by
  have hp := (Sm.bit ht).lt
  have e : (2 : Int) ^ t = ((2 ^ t : Nat) : Int) := by simp
  rw [e]
  generalize (2 : Nat) ^ t = p at *
  unfold wrap64
  omega
theorem mov_store {cs : Array Value} {es : List Edg} {f g t i l : Nat} (hcs : ∀ i l : Nat, i < 16 → l < 6 → cs[i * 6 + l]? = some (.int .i64 (succ es i l : Nat))) (hs : Sm (succ es f g)) (ht : t < 16) (hf : f < 16) (hg : g < 6) (hi : i < 16) (hl : l < 6) :
    (cs.setIfInBounds (f * 6 + g) (.int .i64 (bits .or .i64 (succ es f g : Nat) (wrap64 (2 ^ t)))))[i * 6 + l]? = some (.int .i64 ((if (f : Int) = i ∧ (g : Int) = l then succ es i l ||| 2 ^ (t : Int).toNat else succ es i l : Nat))) := by
  rw [wrap_pow (by omega), bits_or hs (Sm.bit (by omega)), Array.getElem?_setIfInBounds]
  by_cases he : f * 6 + g = i * 6 + l
  · have e1 : f = i := by omega
    have e2 : g = l := by omega
    subst e1; subst e2
    have hsz : f * 6 + g < cs.size := by
      rcases Nat.lt_or_ge (f * 6 + g) cs.size with h1 | h1
      · exact h1
      · have := hcs f g hf hg
        rw [Array.getElem?_eq_none h1] at this
        cases this
    rw [if_pos rfl, if_pos hsz, if_pos ⟨rfl, rfl⟩]
    rfl
  · rw [if_neg he, hcs i l hi hl, if_neg]
    rintro ⟨h1, h2⟩
    exact he (by omega)

set_option maxRecDepth 100000 in
theorem impl_movesOf {lo hi : Nat} {A : Option Addr} {n c : Nat} {s : Sys} {w : World} (h : SysAt w lo hi A n s) (hf : Few 16 s.edges) :
    Calls Tryd.prog 50 #[.agg #[.int .i64 s.al, .int .i64 s.st, .slice A n c]] w fun e w' => ∃ b, e = .returned (.pointer (some ⟨b, 0, none⟩)) ∧ w.heap.size ≤ b ∧ MovB w' b s.edges ∧ Ext w w' := by
  have hn := h.2.len
  have hL := hide h.1
  have hR := fun W (hW : Ext w W) => h.2.ext hW
  have HR := hide hR
  clear hR
  have Hf := hide hf
  clear hf
  go_enter Tryd.func50, Tryd.ntmps50
  have hz := zero_mov
  generalize hzz : Array.replicate 96 (Value.int .i64 0) = zs at hz
  have Hz := hide hzz
  clear hzz
  go_wp2_with (simp only [hz])
  go_loopw [10] (fun i wr => ∃ k : Nat, k ≤ n ∧ i = .int .i64 k ∧ MovB wr (w.heap.size + 1) (s.edges.take k) ∧ Ext w wr) (fun i _ => n - (intOf i).toNat)
  case atStart => exact ⟨0, Nat.zero_le _, rfl, ⟨zs, by have := Blk.new (w.alloc (.cells #[.int .i64 s.al, .int .i64 s.st, .slice A n c] 25)) 89 zs; simpa using this, fun i l hi hl => by rw [← Hz.out, Array.getElem?_replicate, if_pos (by omega)]; rfl⟩, ((Ext.refl _).alloc _).alloc _⟩
  case round =>
    obtain ⟨k, hk, rfl, hmov, hext⟩ := hrel
    by_cases hlt : k < n
    · obtain ⟨b, o, x, rfl, hlo, hhi, hx, c0, c1, c2⟩ := (HR.out wr hext).edge hlt
      obtain ⟨⟨f0, f1⟩, ⟨g0, g1⟩, ⟨t0, t1⟩⟩ := Hf.out x (List.mem_of_getElem? hx.out)
      obtain ⟨f, hf⟩ : ∃ f : Nat, x.fr = f := ⟨x.fr.toNat, by omega⟩
      obtain ⟨g, hg⟩ : ∃ g : Nat, x.le = g := ⟨x.le.toNat, by omega⟩
      obtain ⟨t, ht⟩ : ∃ t : Nat, x.to = t := ⟨x.to.toNat, by omega⟩
      rw [hf] at c0 f0 f1
      rw [hg] at c1 g0 g1
      rw [ht] at c2 t0 t1
      have hf' : f < 16 := by omega
      have hg' : g < 6 := by omega
      have ht' : t < 16 := by omega
      clear f0 f1 g0 g1 t0 t1
      obtain ⟨cs, hblk, hcs⟩ := hmov
      have hs1 : Sm (succ (s.edges.take k) f g) := succ_sm (n := 16) (fun e he => Hf.out e (List.mem_of_mem_take he)) (by omega) f g
      go_wp2
      have hxq := (Ext.refl wr).alloc (.cells #[.int .i64 f, .int .i64 g, .int .i64 t] 48)
      have hbq := Blk.new wr 48 #[.int .i64 f, .int .i64 g, .int .i64 t]
      generalize hq : wr.alloc (.cells #[.int .i64 f, .int .i64 g, .int .i64 t] 48) = wq at *
      clear hq
      have hblq := hblk.ext hxq
      have hd : wq.cell? ⟨w.heap.size + 1, f * 6 + g, none⟩ = some (.int .i64 (succ (s.edges.take k) f g : Nat)) := by rw [hblq.cell, hcs f g hf' hg']
      have hfz := hblq.frozen (f * 6 + g)
      have q0 := hbq.cell 0
      have q1 := hbq.cell 1
      have q2 := hbq.cell 2
      go_still_tail 16, (by kernel_rfl)
      have f1 : (f : Int) < 16 := by omega
      have g1 : (g : Int) < 6 := by omega
      have t1 : (t : Int) ≤ 64 := by omega
      repeat (refine wpStill_step (fun K hK => ?_); go_simp; (try simp only [f1, g1, t1, if_true]); refine hK _ ?_; clear hK K)
      refine wpStill_nil ?_
      change wpList _ _ _ _ _ wq.drew
      have hd2 : wq.drew.cell? ⟨w.heap.size + 1, f * 6 + g, none⟩ = some (.int .i64 (succ (s.edges.take k) f g : Nat)) := hd
      have hfz2 : wq.drew.frozen? ⟨w.heap.size + 1, f * 6 + g, none⟩ = false := hfz
      have hblq2 : Blk wq.drew (w.heap.size + 1) 89 cs := hblq
      have hxq2 : Ext wr wq.drew := hxq.drew
      generalize wq.drew = w2 at *
      have Hu := hide (succ_snoc (s.edges.take k) x)
      have Htk := hide (show s.edges.take (k + 1) = s.edges.take k ++ [x] by rw [List.take_add_one, hx.out]; rfl)
      go_wp2
      go_roundw
      case rel => exact ⟨k + 1, by omega, by go_num, ⟨_, hblq2.set_ (f * 6 + g) _, fun i l hi hl => by
        rw [Htk.out, Hu.out, hf, hg, ht]
        exact mov_store hcs hs1 ht' hf' hg' hi hl⟩, (hext.trans hxq2).setCell (by dsimp only; omega) _⟩
      case measure => simp [intOf]; omega
    · obtain rfl : k = n := by omega
      go_wp2
      go_ret
      rw [hL.out, List.take_length] at hmov
      exact ⟨_, rfl, by omega, hmov, hext⟩
end Go.Proofs.YtbifoikcmjmdeaaDoor

namespace Go.Proofs.YtbifoikcmjmdeaaDoor
open Go Go.RowKit
set_option maxHeartbeats 4000000

/-- The sum of the numbers in a row of cells. -/
def sumAt (w : World) (g p : Nat) : Nat := ((List.range p).map fun i => (intOf ((w.cell? ⟨g, i, none⟩).getD undef)).toNat).sum
theorem sumAt_eq {w : World} {base g p c : Nat} {R : List Nat} (h : w.ownsRow base 3 1 (.slice (some ⟨g, 0, none⟩) p c) p (nats R)) : sumAt w g p = R.sum := by
  have hl : R.length = p := by have := h.1; rw [nats_length] at this; omega
  have hm : ((List.range p).map fun i => (intOf ((w.cell? ⟨g, i, none⟩).getD undef)).toNat) = R := by
    apply List.ext_getElem (by simp [hl])
    intro i h1 h2
    rw [List.getElem_map, List.getElem_range, h.cellAt i (by omega)]
    simp [nats, h2, intOf]
  unfold sumAt
  rw [hm]
theorem diff_pow {r j : Nat} (h : r.testBit j = true) : diff r (2 ^ j) = r - 2 ^ j := by
  apply Nat.eq_of_testBit_eq
  intro k
  rw [diff_bit, testBit_sub_pow h, Nat.testBit_two_pow]
  by_cases hk : k = j
  · simp [hk]
  · simp [hk, Ne.symm hk]
theorem nats_set (R : List Nat) (i v : Nat) : nats (R.set i v) = (nats R).set i (.int .i64 (v : Nat)) := by simp [nats, List.map_set]

theorem nodup_ne {l : List Nat} (h : l.Nodup) {x y j : Nat} (hxy : x < y) (hx : l[x]? = some j) (hy : l[y]? = some j) : False := by
  obtain ⟨h1, e1⟩ := List.getElem?_eq_some_iff.1 hx
  obtain ⟨h2, e2⟩ := List.getElem?_eq_some_iff.1 hy
  exact (List.pairwise_iff_getElem.1 h) x y h1 h2 hxy (by rw [e1, e2])
theorem nats_fill {k p v : Nat} {rest : List Value} (hr : rest.length = p - k) (hk : k < p) : (nats (List.replicate k v) ++ rest).set k (.int .i64 (v : Nat)) = nats (List.replicate (k + 1) v) ++ rest.drop 1 := by
  match rest, hr with
  | [], hr => simp at hr; omega
  | x :: r, _ =>
    have hl : (nats (List.replicate k v)).length = k := by rw [nats_length, List.length_replicate]
    rw [List.set_append_right _ _ (by omega), hl, Nat.sub_self, List.replicate_succ', nats_append]
    simp [nats]
theorem wrap_full {q : Nat} (hq : q ≤ 16) : wrap64 (wrap64 ((2 : Int) ^ q) - 1) = ((2 ^ q - 1 : Nat) : Int) := by
  rw [wrap_pow (by omega)]
  have hp := (Sm.bit (n := q) (by omega)).lt
  have h1 := Nat.two_pow_pos q
  generalize (2 : Nat) ^ q = x at *
  unfold wrap64
  omega

set_option maxRecDepth 100000 in
theorem impl_greatestRelation {both : Bool} {lo hi lo' hi' : Nat} {A : Option Addr} {n c : Nat} {B : Option Addr} {m d : Nat} {s t : Sys} {p q : Nat} {w : World} (h : SysAt w lo hi A n s) (h' : SysAt w lo' hi' B m t) (hT : Tab w)
    (hsp : s.st = p) (htq : t.st = q) (hp1 : 1 ≤ p) (hp : p ≤ 16) (hq : q ≤ 16) (hf : Few p s.edges) (hg : Few q t.edges) :
    Calls Tryd.prog 27 #[.agg #[.int .i64 s.al, .int .i64 s.st, .slice A n c], .agg #[.int .i64 t.al, .int .i64 t.st, .slice B m d], .bool both] w fun e w' => ∃ g R, e = .returned (.slice (some ⟨g, 0, none⟩) p p) ∧ w'.ownsRow w.heap.size 3 1 (.slice (some ⟨g, 0, none⟩) p p) p (nats R) ∧ Gfp both s.edges t.edges p q R ∧ Ext w w' := by
  have HS := hide (fun W (hW : Ext w W) => h.ext hW)
  have HS' := hide (fun W (hW : Ext w W) => h'.ext hW)
  have Hf := hide hf
  have Hg := hide hg
  have hf16 := hide (show Few 16 s.edges from fun e he => by have := hf e he; omega)
  have hg16 := hide (show Few 16 t.edges from fun e he => by have := hg e he; omega)
  clear h h' hf hg
  rw [hsp, htq]
  go_enter Tryd.func27, Tryd.ntmps27
  go_wp2_with fail
  have hext0 := ((Ext.refl w).alloc (.cells #[.int .i64 s.al, .int .i64 p, .slice A n c] 25)).alloc (.cells #[.int .i64 t.al, .int .i64 q, .slice B m d] 25)
  have hb1 := Blk.new w 25 #[.int .i64 s.al, .int .i64 p, .slice A n c]
  have hb2 := Blk.new (w.alloc (.cells #[.int .i64 s.al, .int .i64 p, .slice A n c] 25)) 25 #[.int .i64 t.al, .int .i64 q, .slice B m d]
  replace hb1 := hb1.ext ((Ext.refl _).alloc (.cells #[.int .i64 t.al, .int .i64 q, .slice B m d] 25))
  have hsz : w.heap.size + 2 = ((w.alloc (.cells #[.int .i64 s.al, .int .i64 p, .slice A n c] 25)).alloc (.cells #[.int .i64 t.al, .int .i64 q, .slice B m d] 25)).heap.size := by simp
  rw [show (w.alloc (.cells #[.int .i64 s.al, .int .i64 p, .slice A n c] 25)).heap.size = w.heap.size + 1 by simp] at hb2
  generalize (w.alloc (.cells #[.int .i64 s.al, .int .i64 p, .slice A n c] 25)).alloc (.cells #[.int .i64 t.al, .int .i64 q, .slice B m d] 25) = w0 at *
  have e1 : ∀ W, Ext w0 W → ∀ j, W.cell? ⟨w.heap.size, j, none⟩ = #[Value.int .i64 s.al, .int .i64 p, .slice A n c][j]? := fun W hW => (hb1.ext hW).cell
  have e2 : ∀ W, Ext w0 W → ∀ j, W.cell? ⟨w.heap.size + 1, j, none⟩ = #[Value.int .i64 t.al, .int .i64 q, .slice B m d][j]? := fun W hW => (hb2.ext hW).cell
  have hr := Ext.refl w0
  have cS : ∀ W, Ext w0 W → Calls Tryd.prog 50 #[.agg #[.int .i64 s.al, .int .i64 p, .slice A n c]] W fun e w' => ∃ b, e = .returned (.pointer (some ⟨b, 0, none⟩)) ∧ W.heap.size ≤ b ∧ MovB w' b s.edges ∧ Ext W w' := fun W hW => by
    rw [← hsp]
    exact impl_movesOf (HS.out _ (hext0.trans hW)) hf16.out
  have cT : ∀ W, Ext w0 W → Calls Tryd.prog 50 #[.agg #[.int .i64 t.al, .int .i64 q, .slice B m d]] W fun e w' => ∃ b, e = .returned (.pointer (some ⟨b, 0, none⟩)) ∧ W.heap.size ≤ b ∧ MovB w' b t.edges ∧ Ext W w' := fun W hW => by
    rw [← htq]
    exact impl_movesOf (HS'.out _ (hext0.trans hW)) hg16.out
  have CS := hide cS
  have CT := hide cT
  clear cS cT
  go_region_held3 (fun W => Ext w0 W) (first | assumption | (refine Ext.drew ?_; assumption) | (refine Ext.trans ?_ (by assumption); assumption) | (refine Ext.trans ?_ (by assumption); refine Ext.drew ?_; assumption)) (first
    | (go_at_call 50; with_reducible refine (CS.out _ ?_).mono ?_; (first | assumption | (refine Ext.drew ?_; assumption)); rintro e w1 ⟨b1, rfl, hlb1, hm1, hx1⟩)
    | (go_at_call 50; with_reducible refine (CT.out _ ?_).mono ?_; (first | assumption | (refine Ext.drew ?_; assumption)); rintro e w2 ⟨b2, rfl, hlb2, hm2, hx2⟩))
  have m2 := hm2
  have m1 : MovB w2 b1 s.edges := by first | exact hm1.ext hx2 | exact hm1.ext (((Ext.refl _).drew).trans hx2)
  have hw02 : Ext w0 w2 := by assumption
  have hw2 := hext0.trans hw02
  clear hm1 hm2 hx1 hx2 hlb1 hlb2 hb1 hb2
  have e1' := e1 w2 hw02
  go_wp2_with (at_make; refine wpList_make w w2 rfl _ _ 33 rfl 3 _ 1 8 Tryd.underlying33 info_int _ _ p rfl rfl hw2 (by omega) (by unfold maxLen; omega) ?_; intro w3 hw3 hown3 hx23 hsz3)
  clear e1 e1'
  have hgw : w.heap.size ≤ w2.heap.size := hw2.size
  have hgw1 : w.heap.size + 1 < w2.heap.size := by have := hw02.size; omega
  obtain ⟨g, hgE⟩ : ∃ g, g = w2.heap.size := ⟨_, rfl⟩
  rw [← hgE] at hown3 hsz3 hgw hgw1 ⊢
  have hgg : w2.heap.size ≤ g := by omega
  clear hgE
  go_loopw [25] (fun i wr => ∃ k : Nat, k ≤ p ∧ i = .int .i64 k ∧ ∃ rest : List Value, Hid (rest.length = p - k) ∧ wr.ownsRow w.heap.size 3 1 (.slice (some ⟨g, 0, none⟩) p p) p (nats (List.replicate k (2 ^ q - 1)) ++ rest) ∧ Ext w2 wr) (fun i _ => p - (intOf i).toNat)
  case atStart => exact ⟨0, Nat.zero_le _, rfl, _, by have := hown3.1; unfold Hid; rw [this]; omega, by simpa [nats] using hown3, hx23⟩
  case round =>
    obtain ⟨k, hk, rfl, rest, hrest, hown, hext⟩ := hrel
    have e2' := e2 wr (hw02.trans hext)
    by_cases hlt : k < p
    · obtain ⟨o0, g0⟩ := own_cell hown k (by omega)
      have f0 := hown.frozenAt k
      have q1 : (q : Int) ≤ 64 := by omega
      have hst := hown.stored k (.int .i64 ((2 ^ q - 1 : Nat) : Nat))
      rw [nats_fill hrest.out hlt] at hst
      have hwf := hide (wrap_full hq)
      go_wp2
      go_roundw
      case rel => exact ⟨k + 1, by omega, by go_num, rest.drop 1, by have := hrest.out; unfold Hid; rw [List.length_drop]; omega, by rw [hwf.out]; exact hst.1, hext.setCell (by dsimp only; omega) _⟩
      case measure => simp [intOf]; omega
    · obtain rfl : p = k := by omega
      obtain rfl : rest = [] := List.eq_nil_of_length_eq_zero (by have := hrest.out; omega)
      rw [List.append_nil] at hown
      have hI := Inv.start both s.edges t.edges p q
      generalize List.replicate p (2 ^ q - 1) = R at hown hI
      clear hown3 hx23 hw3 hrest hlt e2 e2'
      go_wp2
      go_loopw [11] (fun _ wr => ∃ R : List Nat, wr.ownsRow w.heap.size 3 1 (.slice (some ⟨g, 0, none⟩) p p) p (nats R) ∧ Inv both s.edges t.edges p q R ∧ Ext w2 wr) (fun _ wr => sumAt wr g p)
      case atStart => exact ⟨R, hown, hI, hext⟩
      case round =>
        clear hown hI hext hk
        obtain ⟨R, hown, hI, hext⟩ := hrel
        have hsum := hide (sumAt_eq hown)
        go_wp2
        go_loopw [11, 38] (fun v i wr => ∃ k : Nat, k ≤ p ∧ i = .int .i64 k ∧ ∃ (ch : Bool) (S : List Nat), v = .bool ch ∧ wr.ownsRow w.heap.size 3 1 (.slice (some ⟨g, 0, none⟩) p p) p (nats S) ∧ Inv both s.edges t.edges p q S ∧ Ext w2 wr
          ∧ Hid (ch = false → S = R ∧ ∀ i j, i < k → rel R i j → Ok both s.edges t.edges (rel R) i j) ∧ Hid (ch = true → S.sum < R.sum)) (fun _ i _ => p - (intOf i).toNat)
        case atStart => exact ⟨0, Nat.zero_le _, rfl, false, R, rfl, hown, hI, hext, fun _ => ⟨rfl, fun i j hi => by omega⟩, fun h => by cases h⟩
        case round =>
          clear hown hI hext
          obtain ⟨k, hk, rfl, ch, S, rfl, hown, hI, hext, hno, hyes⟩ := hrel
          by_cases hlt : k < p
          · have hSl : S.length = p := hI.len
            obtain ⟨r, hr⟩ : ∃ r, S[k]? = some r := ⟨_, List.getElem?_eq_getElem (by omega)⟩
            have hr' : S.getD k 0 = r := by rw [List.getD_eq_getElem?_getD, hr]; rfl
            have hrs : Sm r := Nat.lt_of_lt_of_le (hI.small r (List.mem_of_getElem? hr)) (by rw [show (4294967296 : Nat) = 2 ^ 32 from rfl]; exact Nat.pow_le_pow_right (by omega) (by omega))
            have hc0 : wr.cell? ⟨g, k, none⟩ = some (.int .i64 (r : Nat)) := by rw [hown.cellAt k (by omega)]; simp [nats, hr]
            have Hr := hide hr
            have Hr' := hide hr'
            clear hr hr'
            have hT' := (hT.ext hw2).ext hext
            go_wp2_with (go_at_call 51; refine (impl_members r hrs _ hT').mono ?_; rintro e w4 ⟨C, f, rfl, hown4, hx4⟩)
            have hks := letters_length r 32
            have hkm := hide (fun k => @mem_letters r 32 k)
            have hrd := Reads.of_own (own_less hown4 (Nat.le_refl _))
            have hgr : g < wr.heap.size := by
              have := World.block_lt_of_cell? wr _ hc0
              exact this
            have hown5 := own_ext hown hx4
            have hext5 := hext.trans hx4
            have hks0 : ∀ y, 0 ≤ y → ∀ j, (letters r 32)[y]? = some j → rel S k j := fun y _ j hy => by
              have := (hkm.out j).1 (List.mem_of_getElem? hy)
              exact rel_getD (by rw [Hr'.out]; exact this.2)
            have hnd : (letters r 32).Nodup := List.Pairwise.filter _ List.nodup_range
            have hj32 : ∀ j, j ∈ letters r 32 → j < 16 := fun j hj => by
              have h1 := (hkm.out j).1 hj
              have h2 := rel_lt hI (rel_getD (by rw [Hr'.out]; exact h1.2) : rel S k j)
              omega
            have hcov0 : ch = false → ∀ j, rel R k j → ∃ y : Nat, (letters r 32)[y]? = some j := fun hch j hj => by
              obtain ⟨rfl, _⟩ := hno hch
              have h2 := rel_lt hI hj
              have h3 := hj.2
              rw [Hr'.out] at h3
              exact List.getElem?_of_mem ((hkm.out j).2 ⟨by omega, h3⟩)
            have Hcov0 := hide hcov0
            clear hcov0
            have Hks0 := hide hks0
            have Hnd := hide hnd
            have Hj32 := hide hj32
            clear hks0 hnd hj32 hkm hown hext hown4
            generalize letters r 32 = ks at *
            go_loopw [11, 46] (fun v i wr => ∃ x : Nat, x ≤ ks.length ∧ i = .int .i64 x ∧ ∃ (ch : Bool) (S : List Nat), v = .bool ch ∧ wr.ownsRow w.heap.size 3 1 (.slice (some ⟨g, 0, none⟩) p p) p (nats S) ∧ Inv both s.edges t.edges p q S ∧ Ext w2 wr ∧ Frm (fun b => b = g) w4 wr
              ∧ Hid (ch = false → S = R ∧ (∀ i j, i < k → rel R i j → Ok both s.edges t.edges (rel R) i j) ∧ ∀ y, y < x → ∀ j, ks[y]? = some j → Ok both s.edges t.edges (rel R) k j) ∧ Hid (ch = true → S.sum < R.sum) ∧ Hid (∀ y, x ≤ y → ∀ j, ks[y]? = some j → rel S k j)
              ∧ Hid (ch = false → ∀ j, rel R k j → ∃ y : Nat, ks[y]? = some j)) (fun _ i _ => ks.length - (intOf i).toNat)
            case atStart => exact ⟨0, Nat.zero_le _, rfl, ch, S, rfl, hown5, hI, hext5, Frm.refl _ _, fun h => ⟨(hno h).1, (hno h).2, fun y hy => by omega⟩, hyes, Hks0.out, Hcov0.out⟩
            case round =>
              clear hown5 hI hext5 hno hyes
              obtain ⟨x, hx, rfl, ch, S, rfl, hown, hI, hext, hfrm, hno, hyes, hleft, hcov⟩ := hrel
              by_cases hlx : x < ks.length
              · obtain ⟨ad, j, rfl, _, _, hj, hjc⟩ := (hrd.frm hfrm (fun b hb _ hbg => by omega)).nat hlx
                have hj16 := Hj32.out j (List.mem_of_getElem? hj.out)
                have hrel1 := hide (hleft x (Nat.le_refl _) j hj.out)
                have hSl : S.length = p := hI.len
                have hSm : ∀ r ∈ S, Sm r := fun r hr => Nat.lt_of_lt_of_le (hI.small r hr) (by rw [show (4294967296 : Nat) = 2 ^ 32 from rfl]; exact Nat.pow_le_pow_right (by omega) (by omega))
                have hTw := (hT.ext hw2).ext hext
                have hans := impl_answers (both := both) (c := p) (m1.ext hext).at_ (m2.ext hext).at_ (Reads.of_own hown) hSm hTw (show k < 16 by omega) hj16 Hf.out Hg.out hp hq (show p ≤ S.length by omega)
                have Hans := hide hans
                clear hans
                have hiff := hide (ansB_iff (both := both) (R := S) (i := k) (j := j) Hf.out Hg.out hp)
                cases hb : ansB both s.edges t.edges S k j
                · have Hb := hide hb
                  have Hnok := hide (show ¬ Ok both s.edges t.edges (rel S) k j from fun h => by rw [hiff.out.2 h] at hb; cases hb)
                  clear hb
                  go_wp2_with (go_at_call 52; refine (Hans.out).mono ?_; rw [Hb.out]; rintro e w5 ⟨rfl, hx5⟩)
                  obtain ⟨v, hv⟩ : ∃ v, S[k]? = some v := ⟨_, List.getElem?_eq_getElem (by omega)⟩
                  have hvD : S.getD k 0 = v := by rw [List.getD_eq_getElem?_getD, hv]; rfl
                  have hvs := hSm v (List.mem_of_getElem? hv)
                  have hown6 := own_ext hown hx5
                  have hvb : v.testBit j = true := by have := hrel1.out.2; rw [hvD] at this; exact this
                  have hval := hide (show bits .andNot .i64 (v : Nat) (wrap64 (2 ^ j)) = ((v - 2 ^ j : Nat) : Int) by rw [wrap_pow (by omega), bits_andNot hvs (Sm.bit (by omega)), diff_pow hvb])
                  have hext6 := (hext.trans hx5).drew
                  have hown7 := own_ext hown6 ((Ext.refl _).drew)
                  have hfrm7 := (hfrm.ext hx5).ext ((Ext.refl _).drew)
                  have hc7 : w5.drew.cell? ⟨g, k, none⟩ = some (.int .i64 (v : Nat)) := by rw [hown7.cellAt k (by omega)]; simp [nats, hv]
                  have hf7 := hown7.frozenAt k
                  have hkp : (k : Int) < p := by omega
                  have hj64 : (j : Int) ≤ 64 := by omega
                  have hd := hide (hI.drop hrel1.out Hnok.out)
                  have hsd := hide (sum_drop_lt hrel1.out)
                  have hrs2 := hide (fun a b => rel_set hrel1.out a b)
                  rw [hvD] at hd hsd hrs2
                  have hc6 : w5.cell? ⟨g, k, none⟩ = some (.int .i64 (v : Nat)) := hc7
                  have hst := hown7.stored k (.int .i64 ((v - 2 ^ j : Nat) : Nat))
                  rw [← nats_set] at hst
                  have Hvs := hide hv
                  clear hv hvD hvb
                  go_still_tail 8, (by kernel_rfl)
                  repeat (refine wpStill_step (fun K hK => ?_); go_simp; (try simp only [hkp, hj64, if_true]); refine hK _ ?_; clear hK K)
                  try refine wpStill_nil ?_
                  change wpList _ _ _ _ _ w5.drew
                  generalize w5.drew = w6 at *
                  go_wp2
                  go_roundw
                  case rel => exact ⟨x + 1, by omega, by go_num, true, S.set k (v - 2 ^ j), rfl, by rw [hval.out]; exact hst.1, hd.out, hext6.setCell (by dsimp only; omega) _, hfrm7.cell rfl _, (fun h => by cases h), fun _ => Nat.lt_of_lt_of_le hsd.out (by
                    cases ch
                    · rw [(hno rfl).1]; exact Nat.le_refl _
                    · exact Nat.le_of_lt (hyes rfl)), fun y hy i hi => (hrs2.out k i).2 ⟨hleft y (by omega) i hi, fun he => by
                      exact nodup_ne Hnd.out (show x < y by omega) hj.out (by rw [hi, he.2])⟩, fun h => by cases h⟩
                  case measure => simp [intOf]; omega
                · have Hb := hide hb
                  have Hok := hide (hiff.out.1 hb)
                  clear hb
                  go_wp2_with (go_at_call 52; refine (Hans.out).mono ?_; rw [Hb.out]; rintro e w5 ⟨rfl, hx5⟩)
                  go_roundw
                  case rel => exact ⟨x + 1, by omega, by go_num, ch, S, rfl, own_ext hown hx5, hI, hext.trans hx5, hfrm.ext hx5, fun hch => ⟨(hno hch).1, (hno hch).2.1, fun y hy i hi => by
                    rcases Nat.lt_or_ge y x with h1 | h1
                    · exact (hno hch).2.2 y h1 i hi
                    · obtain rfl : y = x := by omega
                      have hji := hj.out
                      rw [hi] at hji
                      obtain rfl := Option.some.inj hji
                      have := Hok.out
                      rw [(hno hch).1] at this
                      exact this⟩, hyes, fun y hy i hi => hleft y (by omega) i hi, hcov⟩
                  case measure => simp [intOf]; omega
              · obtain rfl : x = ks.length := by omega
                go_wp2
                go_roundw
                case rel => exact ⟨k + 1, by omega, by go_num, ch, S, rfl, hown, hI, hext, fun hch => ⟨(hno hch).1, fun i j hi hr => by
                  rcases Nat.lt_or_ge i k with h1 | h1
                  · exact (hno hch).2.1 i j h1 hr
                  · obtain rfl : i = k := by omega
                    obtain ⟨y, hy⟩ := hcov hch j hr
                    exact (hno hch).2.2 y (List.getElem?_eq_some_iff.1 hy).1 j hy⟩, hyes⟩
                case measure => simp [intOf]; omega
          · obtain rfl : p = k := by omega
            cases ch
            · obtain ⟨rfl, hpost⟩ := hno rfl
              have Hpost := hide hpost
              clear hpost hno hyes
              go_wp2
              go_ret
              have hpost := Hpost.out
              exact ⟨g, S, rfl, hown, ⟨hI, fun i j hr => hpost i j (by have := hr.1; have := hI.len; omega) hr⟩, hw2.trans hext⟩
            · have h1 := hide (hyes rfl)
              clear hno hyes
              go_wp2
              go_roundw
              case rel => exact ⟨S, hown, hI, hext⟩
              case measure =>
                rw [sumAt_eq hown, hsum.out]
                exact h1.out
end Go.Proofs.YtbifoikcmjmdeaaDoor

namespace Go.Proofs.YtbifoikcmjmdeaaDoor
open Go Go.RowKit
set_option maxHeartbeats 4000000

theorem own_some {w : World} {base : Nat} {e : TypeId} {size n : Nat} {v : Value} {xs : List Value} (h : w.ownsRow base e size v n xs) (hn : 0 < n) : ∃ g c, v = .slice (some ⟨g, 0, none⟩) n c ∧ base ≤ g := by
  rcases h.2 with ⟨_, h0⟩ | ⟨g, cap, cur, hv, hg, _⟩
  · omega
  · exact ⟨g, cap, hv, hg⟩
theorem ok_false {es es' : List Edg} {p q : Nat} {R : List Nat} {i j : Nat} (h : Few p es) (h' : Few q es') : Ok false es es' (rel R) i j ↔ es.all (folE es' R i j) = true := by
  rw [fol_iff h h']
  exact ⟨fun x => x.1, fun x => ⟨x, fun h => by cases h⟩⟩
theorem ok_true {es es' : List Edg} {p q : Nat} {R : List Nat} {i j : Nat} (h : Few p es) (h' : Few q es') : Ok true es es' (rel R) i j ↔ es.all (folE es' R i j) = true ∧ es'.all (bakE p es R i j) = true := by
  rw [fol_iff h h', bak_iff h h']
  exact ⟨fun x => ⟨x.1, x.2 rfl⟩, fun x => ⟨x.1, fun _ => x.2⟩⟩
theorem replicate_push (k v : Nat) : nats (List.replicate k v) ++ [Value.int .i64 (v : Nat)] = nats (List.replicate (k + 1) v) := by rw [List.replicate_succ', nats_append]; rfl
/-- One for true. -/
def boolN : Value → Nat
  | .bool true => 1
  | _ => 0
/-- What spec.l15Relate hands back. -/
def RetRel (w : World) (both : Bool) (s t : Sys) (p q : Nat) (e : Ending) (w' : World) : Prop :=
  ∃ g c R, e = .returned (.slice (some ⟨g, 0, none⟩) p c) ∧ w'.ownsRow w.heap.size 3 1 (.slice (some ⟨g, 0, none⟩) p c) p (nats R) ∧ Gfp both s.edges t.edges p q R ∧ Ext w w'

set_option maxRecDepth 100000 in
theorem spec_l15Relate_false {lo hi lo' hi' : Nat} {A : Option Addr} {n c : Nat} {B : Option Addr} {m d : Nat} {s t : Sys} {p q : Nat} {w : World} (h : SysAt w lo hi A n s) (h' : SysAt w lo' hi' B m t)
    (hsp : s.st = p) (htq : t.st = q) (hp1 : 1 ≤ p) (hp : p ≤ 16) (hq : q ≤ 16) (hf : Few p s.edges) (hg : Few q t.edges) :
    Calls Tryd.prog 30 #[.agg #[.int .i64 s.al, .int .i64 s.st, .slice A n c], .agg #[.int .i64 t.al, .int .i64 t.st, .slice B m d], .bool false] w (RetRel w false s t p q) := by
  have HS := hide (fun W (hW : Ext w W) => h.ext hW)
  have HT := hide (fun W (hW : Ext w W) => h'.ext hW)
  have Hf := hide hf
  have Hg := hide hg
  clear h h' hf hg
  rw [hsp, htq]
  go_enter Tryd.func30, Tryd.ntmps30
  go_wp2_with fail
  have hext0 := ((Ext.refl w).alloc (.cells #[.int .i64 s.al, .int .i64 p, .slice A n c] 25)).alloc (.cells #[.int .i64 t.al, .int .i64 q, .slice B m d] 25)
  have hb1 := Blk.new w 25 #[.int .i64 s.al, .int .i64 p, .slice A n c]
  have hb2 := Blk.new (w.alloc (.cells #[.int .i64 s.al, .int .i64 p, .slice A n c] 25)) 25 #[.int .i64 t.al, .int .i64 q, .slice B m d]
  replace hb1 := hb1.ext ((Ext.refl _).alloc (.cells #[.int .i64 t.al, .int .i64 q, .slice B m d] 25))
  have hsz : w.heap.size + 1 + 1 = ((w.alloc (.cells #[.int .i64 s.al, .int .i64 p, .slice A n c] 25)).alloc (.cells #[.int .i64 t.al, .int .i64 q, .slice B m d] 25)).heap.size := by simp
  rw [show (w.alloc (.cells #[.int .i64 s.al, .int .i64 p, .slice A n c] 25)).heap.size = w.heap.size + 1 by simp] at hb2
  generalize (w.alloc (.cells #[.int .i64 s.al, .int .i64 p, .slice A n c] 25)).alloc (.cells #[.int .i64 t.al, .int .i64 q, .slice B m d] 25) = w0 at *
  have Hsz := hide hsz
  clear hsz
  obtain ⟨z, hz⟩ : ∃ z : Nat, Hid (2 ^ q = z) := ⟨_, rfl⟩
  have hz1 : 1 ≤ z := by have := Nat.two_pow_pos q; have := hz.out; omega
  have hz2 : z ≤ 65536 := by rw [← hz.out, show (65536 : Nat) = 2 ^ 16 from rfl]; exact Nat.pow_le_pow_right (by omega) hq
  have CB : ∀ W, Calls Tryd.prog 53 #[.int .i64 q] W fun e w' => e = .returned (.int .i64 (z : Nat)) ∧ W = w' := fun W => by rw [← hz.out]; exact spec_l1Bit q (by omega) W
  have CB' := hide CB
  clear CB
  go_loopw [7, 8] (fun v i wr => ∃ k : Nat, k ≤ p ∧ i = .int .i64 k ∧ wr.ownsRow w0.heap.size 3 1 v k (nats (List.replicate k (z - 1))) ∧ Ext w0 wr) (fun _ i _ => p - (intOf i).toNat)
  case atStart => exact ⟨0, Nat.zero_le _, rfl, by rw [Hsz.out]; exact World.ownsRow_lit w0 #[] 0 (Nat.le_refl _) (by unfold maxLen; omega) rfl, (Ext.refl _).alloc _⟩
  case round =>
    obtain ⟨k, hk, rfl, hown, hext⟩ := hrel
    have e1 := (hb1.ext hext).cell
    have e2 := (hb2.ext hext).cell
    by_cases hlt : k < p
    · have hcast := hide (show ((z : Int) - 1) = ((z - 1 : Nat) : Int) by omega)
      go_wp2_with (first
        | (go_at_call 53; refine (CB'.out _).mono ?_; rintro e w' ⟨rfl, rfl⟩)
        | (at_builtin; refine wpList_push w0 wr rfl _ _ _ rfl 3 _ 1 8 Tryd.underlying33 info_int rfl (by decide) u7 _ _ _ _ rfl rfl hext hown rfl (cells_int _) (by unfold maxLen; omega) (by omega) ?_; intro v' w1 hext1 hown1 hg1 hat1))
      go_roundw
      case rel => exact ⟨k + 1, by omega, by go_num, by rw [hcast.out, show (#[Value.int .i64 ((z - 1 : Nat) : Int)] : Array Value).toList = [Value.int .i64 ((z - 1 : Nat) : Int)] from rfl, replicate_push] at hown1; exact hown1, by assumption⟩
      case measure => simp [intOf]; omega
    · obtain rfl : p = k := by omega
      obtain ⟨g, c2, rfl, hgb⟩ := own_some hown (by omega)
      have hI := Inv.start false s.edges t.edges p q
      rw [hz.out] at hI
      obtain ⟨w2, rfl⟩ : ∃ w2 : World, w2 = wr := ⟨_, rfl⟩
      generalize List.replicate p (z - 1) = R0 at hown hI
      have hx02 := hext
      have CF : ∀ (W : World) (S : List Nat) (k x : Nat), Ext w0 W → W.ownsRow w0.heap.size 3 1 (.slice (some ⟨g, 0, none⟩) p c2) p (nats S) → (∀ r ∈ S, Sm r) → S.length = p → x < 32 →
          Calls Tryd.prog 54 #[.agg #[.int .i64 s.al, .int .i64 p, .slice A n c], .agg #[.int .i64 t.al, .int .i64 q, .slice B m d], .slice (some ⟨g, 0, none⟩) p c2, .int .i64 k, .int .i64 x] W fun e w' => e = .returned (.bool (s.edges.all (folE t.edges S k x))) ∧ Ext W w' := by
        intro W S k x hW ho hs hl hx
        rw [← hsp, ← htq]
        exact spec_l15Follows (HS.out W (hext0.trans hW)) (HT.out W (hext0.trans hW)) (Reads.of_own ho) hs Hf.out Hg.out hp hq hx (by omega)
      have CK : ∀ (W : World) (S : List Nat) (k x : Nat), Ext w0 W → W.ownsRow w0.heap.size 3 1 (.slice (some ⟨g, 0, none⟩) p c2) p (nats S) → (∀ r ∈ S, Sm r) → S.length = p → k < 32 →
          Calls Tryd.prog 55 #[.agg #[.int .i64 s.al, .int .i64 p, .slice A n c], .agg #[.int .i64 t.al, .int .i64 q, .slice B m d], .slice (some ⟨g, 0, none⟩) p c2, .int .i64 k, .int .i64 x] W fun e w' => e = .returned (.bool (t.edges.all (bakE p s.edges S k x))) ∧ Ext W w' := by
        intro W S k x hW ho hs hl hk
        rw [← hsp, ← htq]
        exact spec_l15Backs (HS.out W (hext0.trans hW)) (HT.out W (hext0.trans hW)) (Reads.of_own ho) hs hsp Hf.out Hg.out hp hq hk hl
      have CF' := hide CF
      have CK' := hide CK
      clear CF CK hlt hk
      go_wp2_with fail
      clear e1 e2
      go_loopw [9] (fun v wr => ∃ (b : Bool) (R : List Nat), v = .bool b ∧ wr.ownsRow w0.heap.size 3 1 (.slice (some ⟨g, 0, none⟩) p c2) p (nats R) ∧ Inv false s.edges t.edges p q R ∧ Ext w0 wr ∧ Hid (b = false → ∀ i j, rel R i j → Ok false s.edges t.edges (rel R) i j)) (fun v wr => boolN v + 2 * sumAt wr g p)
      case atStart => exact ⟨true, R0, rfl, hown, hI, hext, fun h => by cases h⟩
      case round =>
        clear hown hI hext
        obtain ⟨b, R, rfl, hown, hI, hext, hfin⟩ := hrel
        have hsum := hide (sumAt_eq hown)
        cases b
        · have Hfin := hide (hfin rfl)
          clear hfin
          go_wp2_with fail
          go_ret
          exact ⟨g, c2, R, rfl, own_less hown hext0.size, ⟨hI, Hfin.out⟩, hext0.trans hext⟩
        · clear hfin
          go_wp2_with fail
          go_loopw [9, 10] (fun v i wr => ∃ k : Nat, k ≤ p ∧ i = .int .i64 k ∧ ∃ (ch : Bool) (S : List Nat), v = .bool ch ∧ wr.ownsRow w0.heap.size 3 1 (.slice (some ⟨g, 0, none⟩) p c2) p (nats S) ∧ Inv false s.edges t.edges p q S ∧ Ext w0 wr
            ∧ Hid (ch = false → S = R ∧ ∀ i j, i < k → rel R i j → Ok false s.edges t.edges (rel R) i j) ∧ Hid (ch = true → S.sum < R.sum)) (fun _ i _ => p - (intOf i).toNat)
          case atStart => exact ⟨0, Nat.zero_le _, rfl, false, R, rfl, hown, hI, hext, fun _ => ⟨rfl, fun i j hi => by omega⟩, fun h => by cases h⟩
          case round =>
            clear hown hI hext
            obtain ⟨k, hk, rfl, ch, S, rfl, hown, hI, hext, hno, hyes⟩ := hrel
            have e1 := (hb1.ext hext).cell
            by_cases hlt : k < p
            · go_wp2_with fail
              clear e1
              go_loopw [9, 11] (fun v i wr => ∃ x : Nat, x ≤ q ∧ i = .int .i64 x ∧ ∃ (ch : Bool) (S : List Nat), v = .bool ch ∧ wr.ownsRow w0.heap.size 3 1 (.slice (some ⟨g, 0, none⟩) p c2) p (nats S) ∧ Inv false s.edges t.edges p q S ∧ Ext w0 wr
                ∧ Hid (ch = false → S = R ∧ (∀ i j, i < k → rel R i j → Ok false s.edges t.edges (rel R) i j) ∧ ∀ j, j < x → rel R k j → Ok false s.edges t.edges (rel R) k j) ∧ Hid (ch = true → S.sum < R.sum)) (fun _ i _ => q - (intOf i).toNat)
              case atStart => exact ⟨0, Nat.zero_le _, rfl, ch, S, rfl, hown, hI, hext, fun h => ⟨(hno h).1, (hno h).2, fun j hj => by omega⟩, hyes⟩
              case round =>
                clear hown hI hext hno hyes
                obtain ⟨x, hxq, rfl, ch, S, rfl, hown, hI, hext, hno, hyes⟩ := hrel
                have e2 := (hb2.ext hext).cell
                by_cases hlx : x < q
                · have hSl : S.length = p := hI.len
                  have hSm : ∀ r ∈ S, Sm r := fun r hr => Nat.lt_of_lt_of_le (hI.small r hr) (by rw [show (4294967296 : Nat) = 2 ^ 32 from rfl]; exact Nat.pow_le_pow_right (by omega) (by omega))
                  obtain ⟨v, hv⟩ : ∃ v, S[k]? = some v := ⟨_, List.getElem?_eq_getElem (by omega)⟩
                  have hvD : S.getD k 0 = v := by rw [List.getD_eq_getElem?_getD, hv]; rfl
                  have hvs := hSm v (List.mem_of_getElem? hv)
                  have hc0 : wr.cell? ⟨g, k, none⟩ = some (.int .i64 (v : Nat)) := by rw [hown.cellAt k (by omega)]; simp [nats, hv]
                  have Hv := hide hv
                  have HvD := hide hvD
                  have HSm := hide hSm
                  have HSl := hide hSl
                  clear hv hvD hSm hSl
                  have e1 := (hb1.ext hext).cell
                  cases hb1' : v.testBit x
                  · have Hb1 := hide hb1'
                    clear hb1'
                    go_wp2_with (go_at_call 29; refine (spec_l1Has v x hvs _ (by omega)).mono ?_; rw [Hb1.out]; rintro e w' ⟨rfl, rfl⟩)
                    go_roundw
                    case rel => exact ⟨x + 1, by omega, by go_num, ch, S, rfl, hown, hI, hext, fun hch => ⟨(hno hch).1, (hno hch).2.1, fun j hj hr => by
                      rcases Nat.lt_or_ge j x with h1 | h1
                      · exact (hno hch).2.2 j h1 hr
                      · obtain rfl : j = x := by omega
                        have := hr.2
                        rw [← (hno hch).1, HvD.out, Hb1.out] at this
                        cases this⟩, hyes⟩
                    case measure => simp [intOf]; omega
                  · have Hb1 := hide hb1'
                    have Hrel := hide (show rel S k x from ⟨by have := HSl.out; omega, by rw [HvD.out]; exact hb1'⟩)
                    clear hb1'
                    have hCF := hide (CF'.out wr S k x hext hown HSm.out HSl.out (by omega))
                    cases hfo : s.edges.all (folE t.edges S k x)
                    · have Hfo := hide hfo
                      clear hfo
                      have Hnok := hide (show ¬ Ok false s.edges t.edges (rel S) k x from fun h => by have := (ok_false Hf.out Hg.out).1 h; rw [Hfo.out] at this; simp at this)
                      go_wp2_with (first | (go_at_call 29; refine (spec_l1Has v x hvs _ (by omega)).mono ?_; rw [Hb1.out]; rintro e w' ⟨rfl, rfl⟩) | (go_at_call 54; with_reducible refine (hCF.out).mono ?_; rw [Hfo.out]; rintro e w5 ⟨rfl, hx5⟩))
                      have hvb : v.testBit x = true := Hb1.out
                      have hle := Nat.ge_two_pow_of_testBit hvb
                      have hd := hide (hI.drop Hrel.out Hnok.out)
                      have hsd := hide (sum_drop_lt Hrel.out)
                      rw [HvD.out] at hd hsd
                      obtain ⟨y, hy⟩ : ∃ y : Nat, Hid (2 ^ x = y) := ⟨_, rfl⟩
                      have CY := hide (show ∀ W, Calls Tryd.prog 53 #[.int .i64 x] W fun e w' => e = .returned (.int .i64 (y : Nat)) ∧ W = w' from fun W => by rw [← hy.out]; exact spec_l1Bit x (by omega) W)
                      rw [hy.out] at hd hsd hle
                      have hvi : (v : Int) < 4294967296 := by have := hvs.lt; omega
                      have hcast := hide (show ((v : Int) - (y : Int)) = ((v - y : Nat) : Int) by omega)
                      generalize hw8e : w5 = w8
                      have hx8 : Ext wr w8 := by rw [← hw8e]; exact hx5
                      clear hw8e
                      have hown8 := own_ext hown hx8
                      have hst := hown8.stored k (.int .i64 ((v - y : Nat) : Nat))
                      rw [← nats_set] at hst
                      have hc8 : w8.drew.cell? ⟨g, k, none⟩ = some (.int .i64 (v : Nat)) := hx8.cell_some hc0
                      have hc8' : w8.cell? ⟨g, k, none⟩ = some (.int .i64 (v : Nat)) := hc8
                      have hf8 : w8.drew.frozen? ⟨g, k, none⟩ = false := hown8.frozenAt k
                      have hx9 : Ext wr w8.drew := hx8.drew
                      have hst9 : (w8.drew.setCell ⟨g, k, none⟩ (.int .i64 ((v - y : Nat) : Nat))).ownsRow w0.heap.size 3 1 (.slice (some ⟨g, 0, none⟩) p c2) p (nats (S.set k (v - y))) := hst.1
                      have hkp0 : (0 : Int) ≤ (k : Int) := by omega
                      have hkp1 : (k : Int) < (p : Int) := by omega
                      clear hvb hst e1 e2
                      go_still_tail 10, (by kernel_rfl)
                      still_call ((CY.out _).mono fun e w' h => ⟨h.1, h.2.symm⟩)
                      repeat still_step
                      try refine wpStill_nil ?_
                      change wpList _ _ _ _ _ w8.drew
                      generalize w8.drew = w9 at *
                      go_wp2_with fail
                      go_roundw
                      case rel => exact ⟨x + 1, by omega, by go_num, true, S.set k (v - y), rfl, by rw [hcast.out]; exact hst9, hd.out, (hext.trans hx9).setCell (by dsimp only; omega) _, (fun h => by cases h), fun _ => Nat.lt_of_lt_of_le hsd.out (by
                        cases ch
                        · rw [(hno rfl).1]; exact Nat.le_refl _
                        · exact Nat.le_of_lt (hyes rfl))⟩
                      case measure => simp [intOf]; omega
                    · have Hfo := hide hfo
                      clear hfo
                      have Hok := hide ((ok_false Hf.out Hg.out).2 Hfo.out)
                      go_wp2_with (first | (go_at_call 29; refine (spec_l1Has v x hvs _ (by omega)).mono ?_; rw [Hb1.out]; rintro e w' ⟨rfl, rfl⟩) | (go_at_call 54; with_reducible refine (hCF.out).mono ?_; rw [Hfo.out]; rintro e w5 ⟨rfl, hx5⟩))
                      go_roundw
                      case rel => exact ⟨x + 1, by omega, by go_num, ch, S, rfl, own_ext hown hx5, hI, hext.trans hx5, fun hch => ⟨(hno hch).1, (hno hch).2.1, fun j hj hr => by
                        rcases Nat.lt_or_ge j x with h1 | h1
                        · exact (hno hch).2.2 j h1 hr
                        · obtain rfl : j = x := by omega
                          have := Hok.out
                          rw [(hno hch).1] at this
                          exact this⟩, hyes⟩
                      case measure => simp [intOf]; omega
                · obtain rfl : q = x := by omega
                  go_wp2_with fail
                  go_roundw
                  case rel => exact ⟨k + 1, by omega, by go_num, ch, S, rfl, hown, hI, hext, fun hch => ⟨(hno hch).1, fun i j hi hr => by
                    rcases Nat.lt_or_ge i k with h1 | h1
                    · exact (hno hch).2.1 i j h1 hr
                    · obtain rfl : i = k := by omega
                      rw [(hno hch).1] at hI
                      exact (hno hch).2.2 j (rel_lt hI hr).2 hr⟩, hyes⟩
                  case measure => simp [intOf]; omega
            · obtain rfl : p = k := by omega
              cases ch
              · obtain ⟨rfl, hpost⟩ := hno rfl
                have Hpost := hide hpost
                clear hpost hno hyes
                go_wp2_with fail
                go_roundw
                case rel => exact ⟨false, S, rfl, hown, hI, hext, fun _ i j hr => Hpost.out i j (by have := hr.1; have := hI.len; omega) hr⟩
                case measure => rw [sumAt_eq hown, hsum.out]; simp [boolN]
              · have h1 := hide (hyes rfl)
                clear hno hyes
                go_wp2_with fail
                go_roundw
                case rel => exact ⟨true, S, rfl, hown, hI, hext, fun h => by cases h⟩
                case measure =>
                  rw [sumAt_eq hown, hsum.out]
                  have := h1.out
                  simp [boolN]; omega

set_option maxRecDepth 100000 in
theorem spec_l15Relate_true {lo hi lo' hi' : Nat} {A : Option Addr} {n c : Nat} {B : Option Addr} {m d : Nat} {s t : Sys} {p q : Nat} {w : World} (h : SysAt w lo hi A n s) (h' : SysAt w lo' hi' B m t)
    (hsp : s.st = p) (htq : t.st = q) (hp1 : 1 ≤ p) (hp : p ≤ 16) (hq : q ≤ 16) (hf : Few p s.edges) (hg : Few q t.edges) :
    Calls Tryd.prog 30 #[.agg #[.int .i64 s.al, .int .i64 s.st, .slice A n c], .agg #[.int .i64 t.al, .int .i64 t.st, .slice B m d], .bool true] w (RetRel w true s t p q) := by
  have HS := hide (fun W (hW : Ext w W) => h.ext hW)
  have HT := hide (fun W (hW : Ext w W) => h'.ext hW)
  have Hf := hide hf
  have Hg := hide hg
  clear h h' hf hg
  rw [hsp, htq]
  go_enter Tryd.func30, Tryd.ntmps30
  go_wp2_with fail
  have hext0 := ((Ext.refl w).alloc (.cells #[.int .i64 s.al, .int .i64 p, .slice A n c] 25)).alloc (.cells #[.int .i64 t.al, .int .i64 q, .slice B m d] 25)
  have hb1 := Blk.new w 25 #[.int .i64 s.al, .int .i64 p, .slice A n c]
  have hb2 := Blk.new (w.alloc (.cells #[.int .i64 s.al, .int .i64 p, .slice A n c] 25)) 25 #[.int .i64 t.al, .int .i64 q, .slice B m d]
  replace hb1 := hb1.ext ((Ext.refl _).alloc (.cells #[.int .i64 t.al, .int .i64 q, .slice B m d] 25))
  have hsz : w.heap.size + 1 + 1 = ((w.alloc (.cells #[.int .i64 s.al, .int .i64 p, .slice A n c] 25)).alloc (.cells #[.int .i64 t.al, .int .i64 q, .slice B m d] 25)).heap.size := by simp
  rw [show (w.alloc (.cells #[.int .i64 s.al, .int .i64 p, .slice A n c] 25)).heap.size = w.heap.size + 1 by simp] at hb2
  generalize (w.alloc (.cells #[.int .i64 s.al, .int .i64 p, .slice A n c] 25)).alloc (.cells #[.int .i64 t.al, .int .i64 q, .slice B m d] 25) = w0 at *
  have Hsz := hide hsz
  clear hsz
  obtain ⟨z, hz⟩ : ∃ z : Nat, Hid (2 ^ q = z) := ⟨_, rfl⟩
  have hz1 : 1 ≤ z := by have := Nat.two_pow_pos q; have := hz.out; omega
  have hz2 : z ≤ 65536 := by rw [← hz.out, show (65536 : Nat) = 2 ^ 16 from rfl]; exact Nat.pow_le_pow_right (by omega) hq
  have CB : ∀ W, Calls Tryd.prog 53 #[.int .i64 q] W fun e w' => e = .returned (.int .i64 (z : Nat)) ∧ W = w' := fun W => by rw [← hz.out]; exact spec_l1Bit q (by omega) W
  have CB' := hide CB
  clear CB
  go_loopw [7, 8] (fun v i wr => ∃ k : Nat, k ≤ p ∧ i = .int .i64 k ∧ wr.ownsRow w0.heap.size 3 1 v k (nats (List.replicate k (z - 1))) ∧ Ext w0 wr) (fun _ i _ => p - (intOf i).toNat)
  case atStart => exact ⟨0, Nat.zero_le _, rfl, by rw [Hsz.out]; exact World.ownsRow_lit w0 #[] 0 (Nat.le_refl _) (by unfold maxLen; omega) rfl, (Ext.refl _).alloc _⟩
  case round =>
    obtain ⟨k, hk, rfl, hown, hext⟩ := hrel
    have e1 := (hb1.ext hext).cell
    have e2 := (hb2.ext hext).cell
    by_cases hlt : k < p
    · have hcast := hide (show ((z : Int) - 1) = ((z - 1 : Nat) : Int) by omega)
      go_wp2_with (first
        | (go_at_call 53; refine (CB'.out _).mono ?_; rintro e w' ⟨rfl, rfl⟩)
        | (at_builtin; refine wpList_push w0 wr rfl _ _ _ rfl 3 _ 1 8 Tryd.underlying33 info_int rfl (by decide) u7 _ _ _ _ rfl rfl hext hown rfl (cells_int _) (by unfold maxLen; omega) (by omega) ?_; intro v' w1 hext1 hown1 hg1 hat1))
      go_roundw
      case rel => exact ⟨k + 1, by omega, by go_num, by rw [hcast.out, show (#[Value.int .i64 ((z - 1 : Nat) : Int)] : Array Value).toList = [Value.int .i64 ((z - 1 : Nat) : Int)] from rfl, replicate_push] at hown1; exact hown1, by assumption⟩
      case measure => simp [intOf]; omega
    · obtain rfl : p = k := by omega
      obtain ⟨g, c2, rfl, hgb⟩ := own_some hown (by omega)
      have hI := Inv.start true s.edges t.edges p q
      rw [hz.out] at hI
      obtain ⟨w2, rfl⟩ : ∃ w2 : World, w2 = wr := ⟨_, rfl⟩
      generalize List.replicate p (z - 1) = R0 at hown hI
      have hx02 := hext
      have CF : ∀ (W : World) (S : List Nat) (k x : Nat), Ext w0 W → W.ownsRow w0.heap.size 3 1 (.slice (some ⟨g, 0, none⟩) p c2) p (nats S) → (∀ r ∈ S, Sm r) → S.length = p → x < 32 →
          Calls Tryd.prog 54 #[.agg #[.int .i64 s.al, .int .i64 p, .slice A n c], .agg #[.int .i64 t.al, .int .i64 q, .slice B m d], .slice (some ⟨g, 0, none⟩) p c2, .int .i64 k, .int .i64 x] W fun e w' => e = .returned (.bool (s.edges.all (folE t.edges S k x))) ∧ Ext W w' := by
        intro W S k x hW ho hs hl hx
        rw [← hsp, ← htq]
        exact spec_l15Follows (HS.out W (hext0.trans hW)) (HT.out W (hext0.trans hW)) (Reads.of_own ho) hs Hf.out Hg.out hp hq hx (by omega)
      have CK : ∀ (W : World) (S : List Nat) (k x : Nat), Ext w0 W → W.ownsRow w0.heap.size 3 1 (.slice (some ⟨g, 0, none⟩) p c2) p (nats S) → (∀ r ∈ S, Sm r) → S.length = p → k < 32 →
          Calls Tryd.prog 55 #[.agg #[.int .i64 s.al, .int .i64 p, .slice A n c], .agg #[.int .i64 t.al, .int .i64 q, .slice B m d], .slice (some ⟨g, 0, none⟩) p c2, .int .i64 k, .int .i64 x] W fun e w' => e = .returned (.bool (t.edges.all (bakE p s.edges S k x))) ∧ Ext W w' := by
        intro W S k x hW ho hs hl hk
        rw [← hsp, ← htq]
        exact spec_l15Backs (HS.out W (hext0.trans hW)) (HT.out W (hext0.trans hW)) (Reads.of_own ho) hs hsp Hf.out Hg.out hp hq hk hl
      have CF' := hide CF
      have CK' := hide CK
      clear CF CK hlt hk
      go_wp2_with fail
      clear e1 e2
      go_loopw [9] (fun v wr => ∃ (b : Bool) (R : List Nat), v = .bool b ∧ wr.ownsRow w0.heap.size 3 1 (.slice (some ⟨g, 0, none⟩) p c2) p (nats R) ∧ Inv true s.edges t.edges p q R ∧ Ext w0 wr ∧ Hid (b = false → ∀ i j, rel R i j → Ok true s.edges t.edges (rel R) i j)) (fun v wr => boolN v + 2 * sumAt wr g p)
      case atStart => exact ⟨true, R0, rfl, hown, hI, hext, fun h => by cases h⟩
      case round =>
        clear hown hI hext
        obtain ⟨b, R, rfl, hown, hI, hext, hfin⟩ := hrel
        have hsum := hide (sumAt_eq hown)
        cases b
        · have Hfin := hide (hfin rfl)
          clear hfin
          go_wp2_with fail
          go_ret
          exact ⟨g, c2, R, rfl, own_less hown hext0.size, ⟨hI, Hfin.out⟩, hext0.trans hext⟩
        · clear hfin
          go_wp2_with fail
          go_loopw [9, 10] (fun v i wr => ∃ k : Nat, k ≤ p ∧ i = .int .i64 k ∧ ∃ (ch : Bool) (S : List Nat), v = .bool ch ∧ wr.ownsRow w0.heap.size 3 1 (.slice (some ⟨g, 0, none⟩) p c2) p (nats S) ∧ Inv true s.edges t.edges p q S ∧ Ext w0 wr
            ∧ Hid (ch = false → S = R ∧ ∀ i j, i < k → rel R i j → Ok true s.edges t.edges (rel R) i j) ∧ Hid (ch = true → S.sum < R.sum)) (fun _ i _ => p - (intOf i).toNat)
          case atStart => exact ⟨0, Nat.zero_le _, rfl, false, R, rfl, hown, hI, hext, fun _ => ⟨rfl, fun i j hi => by omega⟩, fun h => by cases h⟩
          case round =>
            clear hown hI hext
            obtain ⟨k, hk, rfl, ch, S, rfl, hown, hI, hext, hno, hyes⟩ := hrel
            have e1 := (hb1.ext hext).cell
            by_cases hlt : k < p
            · go_wp2_with fail
              clear e1
              go_loopw [9, 11] (fun v i wr => ∃ x : Nat, x ≤ q ∧ i = .int .i64 x ∧ ∃ (ch : Bool) (S : List Nat), v = .bool ch ∧ wr.ownsRow w0.heap.size 3 1 (.slice (some ⟨g, 0, none⟩) p c2) p (nats S) ∧ Inv true s.edges t.edges p q S ∧ Ext w0 wr
                ∧ Hid (ch = false → S = R ∧ (∀ i j, i < k → rel R i j → Ok true s.edges t.edges (rel R) i j) ∧ ∀ j, j < x → rel R k j → Ok true s.edges t.edges (rel R) k j) ∧ Hid (ch = true → S.sum < R.sum)) (fun _ i _ => q - (intOf i).toNat)
              case atStart => exact ⟨0, Nat.zero_le _, rfl, ch, S, rfl, hown, hI, hext, fun h => ⟨(hno h).1, (hno h).2, fun j hj => by omega⟩, hyes⟩
              case round =>
                clear hown hI hext hno hyes
                obtain ⟨x, hxq, rfl, ch, S, rfl, hown, hI, hext, hno, hyes⟩ := hrel
                have e2 := (hb2.ext hext).cell
                by_cases hlx : x < q
                · have hSl : S.length = p := hI.len
                  have hSm : ∀ r ∈ S, Sm r := fun r hr => Nat.lt_of_lt_of_le (hI.small r hr) (by rw [show (4294967296 : Nat) = 2 ^ 32 from rfl]; exact Nat.pow_le_pow_right (by omega) (by omega))
                  obtain ⟨v, hv⟩ : ∃ v, S[k]? = some v := ⟨_, List.getElem?_eq_getElem (by omega)⟩
                  have hvD : S.getD k 0 = v := by rw [List.getD_eq_getElem?_getD, hv]; rfl
                  have hvs := hSm v (List.mem_of_getElem? hv)
                  have hc0 : wr.cell? ⟨g, k, none⟩ = some (.int .i64 (v : Nat)) := by rw [hown.cellAt k (by omega)]; simp [nats, hv]
                  have Hv := hide hv
                  have HvD := hide hvD
                  have HSm := hide hSm
                  have HSl := hide hSl
                  clear hv hvD hSm hSl
                  have e1 := (hb1.ext hext).cell
                  cases hb1' : v.testBit x
                  · have Hb1 := hide hb1'
                    clear hb1'
                    go_wp2_with (go_at_call 29; refine (spec_l1Has v x hvs _ (by omega)).mono ?_; rw [Hb1.out]; rintro e w' ⟨rfl, rfl⟩)
                    go_roundw
                    case rel => exact ⟨x + 1, by omega, by go_num, ch, S, rfl, hown, hI, hext, fun hch => ⟨(hno hch).1, (hno hch).2.1, fun j hj hr => by
                      rcases Nat.lt_or_ge j x with h1 | h1
                      · exact (hno hch).2.2 j h1 hr
                      · obtain rfl : j = x := by omega
                        have := hr.2
                        rw [← (hno hch).1, HvD.out, Hb1.out] at this
                        cases this⟩, hyes⟩
                    case measure => simp [intOf]; omega
                  · have Hb1 := hide hb1'
                    have Hrel := hide (show rel S k x from ⟨by have := HSl.out; omega, by rw [HvD.out]; exact hb1'⟩)
                    clear hb1'
                    have hCF := hide (CF'.out wr S k x hext hown HSm.out HSl.out (by omega))
                    cases hfo : s.edges.all (folE t.edges S k x)
                    · have Hfo := hide hfo
                      clear hfo
                      have Hnok := hide (show ¬ Ok true s.edges t.edges (rel S) k x from fun h => by have := (ok_true Hf.out Hg.out).1 h; rw [Hfo.out] at this; simp at this)
                      go_wp2_with (first | (go_at_call 29; refine (spec_l1Has v x hvs _ (by omega)).mono ?_; rw [Hb1.out]; rintro e w' ⟨rfl, rfl⟩) | (go_at_call 54; with_reducible refine (hCF.out).mono ?_; rw [Hfo.out]; rintro e w5 ⟨rfl, hx5⟩))
                      have hvb : v.testBit x = true := Hb1.out
                      have hle := Nat.ge_two_pow_of_testBit hvb
                      have hd := hide (hI.drop Hrel.out Hnok.out)
                      have hsd := hide (sum_drop_lt Hrel.out)
                      rw [HvD.out] at hd hsd
                      obtain ⟨y, hy⟩ : ∃ y : Nat, Hid (2 ^ x = y) := ⟨_, rfl⟩
                      have CY := hide (show ∀ W, Calls Tryd.prog 53 #[.int .i64 x] W fun e w' => e = .returned (.int .i64 (y : Nat)) ∧ W = w' from fun W => by rw [← hy.out]; exact spec_l1Bit x (by omega) W)
                      rw [hy.out] at hd hsd hle
                      have hvi : (v : Int) < 4294967296 := by have := hvs.lt; omega
                      have hcast := hide (show ((v : Int) - (y : Int)) = ((v - y : Nat) : Int) by omega)
                      generalize hw8e : w5 = w8
                      have hx8 : Ext wr w8 := by rw [← hw8e]; exact hx5
                      clear hw8e
                      have hown8 := own_ext hown hx8
                      have hst := hown8.stored k (.int .i64 ((v - y : Nat) : Nat))
                      rw [← nats_set] at hst
                      have hc8 : w8.drew.cell? ⟨g, k, none⟩ = some (.int .i64 (v : Nat)) := hx8.cell_some hc0
                      have hc8' : w8.cell? ⟨g, k, none⟩ = some (.int .i64 (v : Nat)) := hc8
                      have hf8 : w8.drew.frozen? ⟨g, k, none⟩ = false := hown8.frozenAt k
                      have hx9 : Ext wr w8.drew := hx8.drew
                      have hst9 : (w8.drew.setCell ⟨g, k, none⟩ (.int .i64 ((v - y : Nat) : Nat))).ownsRow w0.heap.size 3 1 (.slice (some ⟨g, 0, none⟩) p c2) p (nats (S.set k (v - y))) := hst.1
                      have hkp0 : (0 : Int) ≤ (k : Int) := by omega
                      have hkp1 : (k : Int) < (p : Int) := by omega
                      clear hvb hst e1 e2
                      go_still_tail 10, (by kernel_rfl)
                      still_call ((CY.out _).mono fun e w' h => ⟨h.1, h.2.symm⟩)
                      repeat still_step
                      try refine wpStill_nil ?_
                      change wpList _ _ _ _ _ w8.drew
                      generalize w8.drew = w9 at *
                      go_wp2_with fail
                      go_roundw
                      case rel => exact ⟨x + 1, by omega, by go_num, true, S.set k (v - y), rfl, by rw [hcast.out]; exact hst9, hd.out, (hext.trans hx9).setCell (by dsimp only; omega) _, (fun h => by cases h), fun _ => Nat.lt_of_lt_of_le hsd.out (by
                        cases ch
                        · rw [(hno rfl).1]; exact Nat.le_refl _
                        · exact Nat.le_of_lt (hyes rfl))⟩
                      case measure => simp [intOf]; omega
                    · have Hfo := hide hfo
                      clear hfo
                      cases hbk : t.edges.all (bakE p s.edges S k x)
                      · have Hbk := hide hbk
                        clear hbk
                        have Hnok := hide (show ¬ Ok true s.edges t.edges (rel S) k x from fun h => by have := (ok_true Hf.out Hg.out).1 h; rw [Hbk.out] at this; simp at this)
                        go_wp2_with (first | (go_at_call 29; refine (spec_l1Has v x hvs _ (by omega)).mono ?_; rw [Hb1.out]; rintro e w' ⟨rfl, rfl⟩) | (go_at_call 54; with_reducible refine (hCF.out).mono ?_; rw [Hfo.out]; rintro e w5 ⟨rfl, hx5⟩; have e15 := (hb1.ext (hext.trans hx5)).cell; have e25 := (hb2.ext (hext.trans hx5)).cell) | (go_at_call 55; refine (CK'.out _ S k x (hext.trans hx5) (own_ext hown hx5) HSm.out HSl.out (by omega)).mono ?_; rw [Hbk.out]; rintro e w6 ⟨rfl, hx6⟩))
                        clear e15 e25
                        have hvb : v.testBit x = true := Hb1.out
                        have hle := Nat.ge_two_pow_of_testBit hvb
                        have hd := hide (hI.drop Hrel.out Hnok.out)
                        have hsd := hide (sum_drop_lt Hrel.out)
                        rw [HvD.out] at hd hsd
                        obtain ⟨y, hy⟩ : ∃ y : Nat, Hid (2 ^ x = y) := ⟨_, rfl⟩
                        have CY := hide (show ∀ W, Calls Tryd.prog 53 #[.int .i64 x] W fun e w' => e = .returned (.int .i64 (y : Nat)) ∧ W = w' from fun W => by rw [← hy.out]; exact spec_l1Bit x (by omega) W)
                        rw [hy.out] at hd hsd hle
                        have hvi : (v : Int) < 4294967296 := by have := hvs.lt; omega
                        have hcast := hide (show ((v : Int) - (y : Int)) = ((v - y : Nat) : Int) by omega)
                        generalize hw8e : w6 = w8
                        have hx8 : Ext wr w8 := by rw [← hw8e]; exact (hx5.trans hx6)
                        clear hw8e
                        have hown8 := own_ext hown hx8
                        have hst := hown8.stored k (.int .i64 ((v - y : Nat) : Nat))
                        rw [← nats_set] at hst
                        have hc8 : w8.drew.cell? ⟨g, k, none⟩ = some (.int .i64 (v : Nat)) := hx8.cell_some hc0
                        have hc8' : w8.cell? ⟨g, k, none⟩ = some (.int .i64 (v : Nat)) := hc8
                        have hf8 : w8.drew.frozen? ⟨g, k, none⟩ = false := hown8.frozenAt k
                        have hx9 : Ext wr w8.drew := hx8.drew
                        have hst9 : (w8.drew.setCell ⟨g, k, none⟩ (.int .i64 ((v - y : Nat) : Nat))).ownsRow w0.heap.size 3 1 (.slice (some ⟨g, 0, none⟩) p c2) p (nats (S.set k (v - y))) := hst.1
                        have hkp0 : (0 : Int) ≤ (k : Int) := by omega
                        have hkp1 : (k : Int) < (p : Int) := by omega
                        clear hvb hst e1 e2
                        go_still_tail 10, (by kernel_rfl)
                        still_call ((CY.out _).mono fun e w' h => ⟨h.1, h.2.symm⟩)
                        repeat still_step
                        try refine wpStill_nil ?_
                        change wpList _ _ _ _ _ w8.drew
                        generalize w8.drew = w9 at *
                        go_wp2_with fail
                        go_roundw
                        case rel => exact ⟨x + 1, by omega, by go_num, true, S.set k (v - y), rfl, by rw [hcast.out]; exact hst9, hd.out, (hext.trans hx9).setCell (by dsimp only; omega) _, (fun h => by cases h), fun _ => Nat.lt_of_lt_of_le hsd.out (by
                          cases ch
                          · rw [(hno rfl).1]; exact Nat.le_refl _
                          · exact Nat.le_of_lt (hyes rfl))⟩
                        case measure => simp [intOf]; omega
                      · have Hbk := hide hbk
                        clear hbk
                        have Hok := hide ((ok_true Hf.out Hg.out).2 ⟨Hfo.out, Hbk.out⟩)
                        go_wp2_with (first | (go_at_call 29; refine (spec_l1Has v x hvs _ (by omega)).mono ?_; rw [Hb1.out]; rintro e w' ⟨rfl, rfl⟩) | (go_at_call 54; with_reducible refine (hCF.out).mono ?_; rw [Hfo.out]; rintro e w5 ⟨rfl, hx5⟩; have e15 := (hb1.ext (hext.trans hx5)).cell; have e25 := (hb2.ext (hext.trans hx5)).cell) | (go_at_call 55; refine (CK'.out _ S k x (hext.trans hx5) (own_ext hown hx5) HSm.out HSl.out (by omega)).mono ?_; rw [Hbk.out]; rintro e w6 ⟨rfl, hx6⟩))
                        go_roundw
                        case rel => exact ⟨x + 1, by omega, by go_num, ch, S, rfl, own_ext hown (hx5.trans hx6), hI, hext.trans (hx5.trans hx6), fun hch => ⟨(hno hch).1, (hno hch).2.1, fun j hj hr => by
                          rcases Nat.lt_or_ge j x with h1 | h1
                          · exact (hno hch).2.2 j h1 hr
                          · obtain rfl : j = x := by omega
                            have := Hok.out
                            rw [(hno hch).1] at this
                            exact this⟩, hyes⟩
                        case measure => simp [intOf]; omega
                · obtain rfl : q = x := by omega
                  go_wp2_with fail
                  go_roundw
                  case rel => exact ⟨k + 1, by omega, by go_num, ch, S, rfl, hown, hI, hext, fun hch => ⟨(hno hch).1, fun i j hi hr => by
                    rcases Nat.lt_or_ge i k with h1 | h1
                    · exact (hno hch).2.1 i j h1 hr
                    · obtain rfl : i = k := by omega
                      rw [(hno hch).1] at hI
                      exact (hno hch).2.2 j (rel_lt hI hr).2 hr⟩, hyes⟩
                  case measure => simp [intOf]; omega
            · obtain rfl : p = k := by omega
              cases ch
              · obtain ⟨rfl, hpost⟩ := hno rfl
                have Hpost := hide hpost
                clear hpost hno hyes
                go_wp2_with fail
                go_roundw
                case rel => exact ⟨false, S, rfl, hown, hI, hext, fun _ i j hr => Hpost.out i j (by have := hr.1; have := hI.len; omega) hr⟩
                case measure => rw [sumAt_eq hown, hsum.out]; simp [boolN]
              · have h1 := hide (hyes rfl)
                clear hno hyes
                go_wp2_with fail
                go_roundw
                case rel => exact ⟨true, S, rfl, hown, hI, hext, fun h => by cases h⟩
                case measure =>
                  rw [sumAt_eq hown, hsum.out]
                  have := h1.out
                  simp [boolN]; omega

theorem spec_l15Relate {both : Bool} {lo hi lo' hi' : Nat} {A : Option Addr} {n c : Nat} {B : Option Addr} {m d : Nat} {s t : Sys} {p q : Nat} {w : World} (h : SysAt w lo hi A n s) (h' : SysAt w lo' hi' B m t)
    (hsp : s.st = p) (htq : t.st = q) (hp1 : 1 ≤ p) (hp : p ≤ 16) (hq : q ≤ 16) (hf : Few p s.edges) (hg : Few q t.edges) :
    Calls Tryd.prog 30 #[.agg #[.int .i64 s.al, .int .i64 s.st, .slice A n c], .agg #[.int .i64 t.al, .int .i64 t.st, .slice B m d], .bool both] w (RetRel w both s t p q) := by
  cases both
  · exact spec_l15Relate_false h h' hsp htq hp1 hp hq hf hg
  · exact spec_l15Relate_true h h' hsp htq hp1 hp hq hf hg
end Go.Proofs.YtbifoikcmjmdeaaDoor

namespace Go.Proofs.YtbifoikcmjmdeaaDoor
open Go Go.RowKit
set_option maxHeartbeats 400000

def cmpI (x y : Int) : Int := if x < y then -1 else if y < x then 1 else 0
theorem cmp_isNaN (x : Int) (w : World) : Calls Tryd.prog 92 #[.int .i64 x] w fun e w' => e = .returned (.bool false) ∧ w = w' := by
  have h : (x != x) = false := by simp
  go_enter Tryd.func92, Tryd.ntmps92
  go_wp2
  go_ret
  exact ⟨ret_bool (by simp), rfl⟩
theorem cmp_Compare (x y : Int) (w : World) : Calls Tryd.prog 81 #[.int .i64 x, .int .i64 y] w fun e w' => e = .returned (.int .i64 (cmpI x y)) ∧ w = w' := by
  by_cases h : x < y
  · go_enter Tryd.func81, Tryd.ntmps81
    go_wp2_with (go_at_call 92; refine (cmp_isNaN _ _).mono ?_; rintro e w' ⟨rfl, rfl⟩)
    go_ret
    exact ⟨ret_int (by unfold cmpI; split <;> omega), rfl⟩
  · by_cases h' : y < x
    all_goals
      go_enter Tryd.func81, Tryd.ntmps81
      go_wp2_with (go_at_call 92; refine (cmp_isNaN _ _).mono ?_; rintro e w' ⟨rfl, rfl⟩)
      go_ret
      exact ⟨ret_int (by unfold cmpI; (repeat' split) <;> omega), rfl⟩

/-- The first number that is not 0. -/
def orI : List Int → Int
  | [] => 0
  | x :: r => if x = 0 then orI r else x
theorem orI_stop {l : List Int} {k : Nat} {x : Int} (h : l[k]? = some x) (hk : ∀ y ∈ l.take k, y = 0) (hx : x ≠ 0) : orI l = x := by
  induction l generalizing k with
  | nil => simp at h
  | cons a r ih =>
    cases k with
    | zero => simp at h; subst h; rw [orI, if_neg hx]
    | succ k =>
      have ha : a = 0 := hk a (by simp)
      rw [orI, if_pos ha]
      exact ih (by simpa using h) (fun y hy => hk y (by simp [hy]))
theorem orI_end {l : List Int} (hk : ∀ y ∈ l, y = 0) : orI l = 0 := by
  induction l with
  | nil => rfl
  | cons a r ih => rw [orI, if_pos (hk a (by simp)), ih fun y hy => hk y (by simp [hy])]

theorem cmp_Or {lo hi : Nat} {A : Option Addr} {n c : Nat} {l : List Int} {w : World} (h : Reads w lo hi 1 A n (ints l)) :
    Calls Tryd.prog 80 #[.slice A n c] w fun e w' => e = .returned (.int .i64 (orI l)) ∧ w = w' := by
  have hn := h.len
  have Hl := hide (show l.length = n by have := h.length; rw [ints_length] at this; omega)
  go_enter Tryd.func80, Tryd.ntmps80
  go_wp2
  go_loop [8] (fun i => ∃ k : Nat, k ≤ n ∧ i = .int .i64 k ∧ Hid (∀ y ∈ l.take k, y = 0)) (fun i => n - (intOf i).toNat)
  case atStart => exact ⟨0, Nat.zero_le _, rfl, hide (by simp)⟩
  case round =>
    obtain ⟨k, hk, rfl, hz⟩ := hrel
    by_cases hlt : k < n
    · obtain ⟨ad, x, rfl, _, _, hx, hc⟩ := h.int hlt
      by_cases h0 : x = 0
      · have hb : ((x : Int) != 0) = false := by simp [h0]
        have H0 := hide h0
        clear h0
        go_wp2
        go_round
        case rel => exact ⟨k + 1, by omega, by go_num, hide (by rw [List.take_add_one, hx.out]; intro y hy; simp at hy; rcases hy with hy | hy; exact hz.out y hy; rw [hy, H0.out])⟩
        case measure => simp [intOf]; omega
      · have hb : ((x : Int) != 0) = true := by simp [h0]
        go_wp2
        go_ret
        exact ⟨ret_int (orI_stop hx.out hz.out h0).symm, rfl⟩
    · obtain rfl : k = n := by omega
      go_wp2
      go_ret
      have := hz.out
      rw [List.take_of_length_le (by have := Hl.out; omega)] at this
      exact ⟨ret_int (orI_end this).symm, rfl⟩

/-- The order of edges, as a number. -/
def cmpE (a b : Edg) : Int := orI [cmpI a.fr b.fr, cmpI a.le b.le, cmpI a.to b.to]
/-- The order of edges. -/
def ltE (a b : Edg) : Bool := if a.fr = b.fr then if a.le = b.le then decide (a.to < b.to) else decide (a.le < b.le) else decide (a.fr < b.fr)
theorem cmpE_lt (a b : Edg) : cmpE a b < 0 ↔ ltE a b = true := by
  have hc : ∀ x y : Int, (cmpI x y = 0 ↔ x = y) ∧ (cmpI x y < 0 ↔ x < y) := fun x y => by unfold cmpI; constructor <;> (repeat' split) <;> omega
  have h1 := hc a.fr b.fr
  have h2 := hc a.le b.le
  have h3 := hc a.to b.to
  have hv : cmpE a b = if cmpI a.fr b.fr = 0 then if cmpI a.le b.le = 0 then if cmpI a.to b.to = 0 then 0 else cmpI a.to b.to else cmpI a.le b.le else cmpI a.fr b.fr := rfl
  rw [hv, ltE]
  by_cases e1 : a.fr = b.fr
  · rw [if_pos (h1.1.2 e1), if_pos e1]
    by_cases e2 : a.le = b.le
    · rw [if_pos (h2.1.2 e2), if_pos e2]
      by_cases e3 : cmpI a.to b.to = 0
      · rw [if_pos e3]; have := h3.1.1 e3; simp; omega
      · rw [if_neg e3, h3.2]; simp
    · rw [if_neg (fun h => e2 (h2.1.1 h)), if_neg e2, h2.2]; simp
  · rw [if_neg (fun h => e1 (h1.1.1 h)), if_neg e1, h1.2]; simp

/-- A slice that a literal has just laid. -/
theorem reads_lit {w w' : World} {cs : Array Value} {t : TypeId} (n : Nat) (l : List Int) (hc : cs.toList = ints l) (hl : l.length = n) (hn : n ≤ 1000) (h : Ext (w.alloc (.cells cs t)) w') : Reads w' 0 w'.heap.size 1 (some ⟨w.heap.size, 0, none⟩) n (ints l) := by
  have hb := ext_blk1 h
  refine ⟨by rw [ints_length]; omega, by omega, fun _ => ⟨_, rfl, Nat.zero_le _, hb.lt, fun j u hu => ?_⟩⟩
  rw [addr_lit, Nat.zero_add, hb.cell, ← Array.getElem?_toList, hc]
  exact hu

theorem impl_compareEdges {a b : Edg} {w : World} :
    Calls Tryd.prog 58 #[.agg #[.int .i64 a.fr, .int .i64 a.le, .int .i64 a.to], .agg #[.int .i64 b.fr, .int .i64 b.le, .int .i64 b.to]] w fun e w' => e = .returned (.int .i64 (cmpE a b)) ∧ Ext w w' := by
  go_enter Tryd.func58, Tryd.ntmps58
  go_wp2_with fail
  obtain ⟨W, hW⟩ : ∃ W : World, W = (w.alloc (.cells #[Value.int .i64 a.fr, .int .i64 a.le, .int .i64 a.to] 48)).alloc (.cells #[Value.int .i64 b.fr, .int .i64 b.le, .int .i64 b.to] 48) := ⟨_, rfl⟩
  have hx : Ext w W := by rw [hW]; exact ((Ext.refl _).alloc _).alloc _
  have h2 := ext_blk2 (show Ext ((w.alloc (.cells #[Value.int .i64 a.fr, .int .i64 a.le, .int .i64 a.to] 48)).alloc (.cells #[Value.int .i64 b.fr, .int .i64 b.le, .int .i64 b.to] 48)) W by rw [hW]; exact Ext.refl _)
  have e0 : ∀ X, Ext W X → ∀ j, X.cell? ⟨w.heap.size, j, none⟩ = #[Value.int .i64 a.fr, .int .i64 a.le, .int .i64 a.to][j]? := fun X hX => (h2.1.ext hX).cell
  have e1 : ∀ X, Ext W X → ∀ j, X.cell? ⟨w.heap.size + 1, j, none⟩ = #[Value.int .i64 b.fr, .int .i64 b.le, .int .i64 b.to][j]? := fun X hX => (h2.2.ext hX).cell
  rw [← hW]
  have hr := Ext.refl W
  clear hW h2
  go_region_held3 (fun X => Ext W X) (first | assumption | (refine Ext.drew ?_; assumption) | (refine Ext.alloc ?_ _; assumption) | (refine Ext.drew ?_; refine Ext.alloc ?_ _; assumption) | (refine Ext.trans ?_ (by assumption); assumption)) (first | (go_at_call 81; refine (cmp_Compare _ _ _).mono ?_; rintro e w' ⟨rfl, rfl⟩) | (go_at_call 80; refine (cmp_Or (reads_lit 3 [cmpI a.fr b.fr, cmpI a.le b.le, cmpI a.to b.to] rfl rfl (by omega) ((Ext.refl _).drew))).mono ?_; rintro e w' ⟨rfl, rfl⟩))
  all_goals (go_wp2_with fail; go_ret; exact ⟨rfl, hx.trans (by first | assumption | (refine Ext.drew ?_; assumption) | (refine Ext.alloc ?_ _; assumption) | (refine Ext.drew ?_; refine Ext.alloc ?_ _; assumption))⟩)
end Go.Proofs.YtbifoikcmjmdeaaDoor

namespace Go.Proofs.YtbifoikcmjmdeaaDoor
open Go Go.RowKit
set_option maxHeartbeats 4000000

theorem impl_isState {al st : Int} {A : Option Addr} {n c : Nat} {q : Int} {w : World} :
    Calls Tryd.prog 57 #[.agg #[.int .i64 al, .int .i64 st, .slice A n c], .int .i64 q] w fun e w' => e = .returned (.bool (decide (0 ≤ q) && decide (q < st))) ∧ Ext w w' := by
  by_cases h0 : 0 ≤ q
  all_goals
    go_enter Tryd.func57, Tryd.ntmps57
    go_wp2
    go_ret
    exact ⟨ret_bool (by simp; try omega), (Ext.refl _).alloc _⟩

/-- An edge of a system with an alphabet and a number of states. -/
def edgB (al : Nat) (st : Int) (e : Edg) : Bool := (decide (0 ≤ e.fr) && decide (e.fr < st)) && ((decide (0 ≤ e.to) && decide (e.to < st)) && (decide (e.le < 6) && hasB al e.le))
/-- The k-th edge is right, and behind the one ahead of it. -/
def edgeOK (al : Nat) (st : Int) (l : List Edg) (k : Nat) : Bool :=
  match l[k]? with
  | some e => edgB al st e && (decide (k = 0) || match l[k - 1]? with
    | some p => ltE p e
    | none => false)
  | none => false
def sysValid (s : Sys) : Bool :=
  decide (0 ≤ s.al ∧ s.al ≤ 63) && (decide (1 ≤ s.st ∧ s.st ≤ 16) && (List.range s.edges.length).all (edgeOK s.al.toNat s.st s.edges))

theorem impl_SystemValid {lo hi : Nat} {A : Option Addr} {n c : Nat} {s : Sys} {w : World} (h : SysAt w lo hi A n s) :
    Calls Tryd.prog 31 #[.agg #[.int .i64 s.al, .int .i64 s.st, .slice A n c]] w fun e w' => e = .returned (.bool (sysValid s)) ∧ Ext w w' := by
  have Hv := hide (show sysValid s = (decide (0 ≤ s.al ∧ s.al ≤ 63) && (decide (1 ≤ s.st ∧ s.st ≤ 16) && (List.range n).all (edgeOK s.al.toNat s.st s.edges))) by unfold sysValid; rw [← h.1])
  have hn := h.2.len
  by_cases hal : 0 ≤ s.al ∧ s.al ≤ 63
  · by_cases hst : 1 ≤ s.st ∧ s.st ≤ 16
    · obtain ⟨al, hal'⟩ : ∃ al : Nat, Hid (s.al = al) := ⟨s.al.toNat, by unfold Hid; omega⟩
      have hsm : Sm al := by have := hal'.out; unfold Sm; omega
      have hd := hide (show decide (0 ≤ (al : Int) ∧ (al : Int) ≤ 63) = true by have := hal'.out; simp; omega)
      rw [hal'.out]
      rw [hal'.out, Int.toNat_natCast] at Hv
      clear hal
      have hd1 : decide (s.st < 1) = false := by simp; omega
      have hd2 : decide (16 < s.st) = false := by simp; omega
      obtain ⟨st, hst', hs1, hs2⟩ : ∃ st : Int, Hid (s.st = st) ∧ 1 ≤ st ∧ st ≤ 16 := ⟨s.st, hide rfl, hst.1, hst.2⟩
      rw [hst'.out] at hd1 hd2 Hv ⊢
      clear hst
      have hR := fun W (hW : Ext w W) => h.2.ext hW
      have HR := hide hR
      clear hR
      go_enter Tryd.func31, Tryd.ntmps31
      go_wp2_with (go_at_call 56; refine (impl_isAlphabet _ _).mono ?_; rw [hd.out]; rintro e w' ⟨rfl, rfl⟩)
      go_loopw [22] (fun i wr => ∃ k : Nat, k ≤ n ∧ i = .int .i64 k ∧ Hid (((List.range n).take k).all (edgeOK al st s.edges) = true) ∧ Ext (w.alloc (.cells #[Value.int .i64 al, .int .i64 st, Value.slice A n c] 25)) wr)
        (fun i _ => n - (intOf i).toNat)
      case atStart => exact ⟨0, Nat.zero_le _, rfl, rfl, Ext.refl _⟩
      case round =>
        obtain ⟨k, hk, rfl, hall, hext⟩ := hrel
        by_cases hlt : k < n
        · obtain ⟨b, o, e, rfl, hlo, hhi, he, c0, c1, c2⟩ := (HR.out wr (((Ext.refl _).alloc _).trans hext)).edge hlt
          have hbx := ext_box hext
          go_wp2_with fail
          obtain ⟨W, hW⟩ : ∃ W : World, W = wr.alloc (.cells #[Value.int .i64 e.fr, .int .i64 e.le, .int .i64 e.to] 48) := ⟨_, rfl⟩
          have hx : Ext wr W := by rw [hW]; exact (Ext.refl _).alloc _
          have h1 := ext_blk1 (show Ext (wr.alloc (.cells #[Value.int .i64 e.fr, .int .i64 e.le, .int .i64 e.to] 48)) W by rw [hW]; exact Ext.refl _)
          have e0 : ∀ X, Ext W X → ∀ j, X.cell? ⟨w.heap.size, j, none⟩ = #[Value.int .i64 al, .int .i64 st, Value.slice (some ⟨b, o, none⟩) n c][j]? := fun X hX => ext_box ((hext.trans hx).trans hX)
          have e1 : ∀ X, Ext W X → ∀ j, X.cell? ⟨wr.heap.size, j, none⟩ = #[Value.int .i64 e.fr, .int .i64 e.le, .int .i64 e.to][j]? := fun X hX => (h1.ext hX).cell
          rw [← hW]
          have hr := Ext.refl W
          clear hW h1 hbx c0 c1 c2
          have hfin : ∀ X, Ext W X → Ext w X := fun X hX => ((((Ext.refl _).alloc _).trans hext).trans hx).trans hX
          have Hfin := hide hfin
          clear hfin
          have hge : (List.range n)[k]? = some k := by rw [List.getElem?_range hlt]
          have Hge := hide hge
          clear hge
          cases hA : (decide (0 ≤ e.fr) && decide (e.fr < st))
          · have HA := hide hA
            clear hA
            have hA := HA; clear HA
            refine wp_region_ord (fun X => Ext W X) [0, 1, 2, 3, 4, 5, 6, 7, 8, 9, 10, 11, 12, 13, 14, 15, 16, 17, 18, 19, 20, 21, 22, 23, 24, 25, 26, 27, 28, 29, 30, 31, 32, 33, 34, 35, 36, 37, 38, 39] (by kernel_rfl) rfl (by kernel_rfl) (by kernel_rfl) (fun _ _ _ _ _ h => h) ((Ext.refl _).drew) (fun hS => ?_)
            repeat (first | (refine seq_skip rfl rfl (by assumption) ?_; simp only [Act.put, List.setIfInBounds_toArray, List.set_cons_zero, List.set_cons_succ]) | (refine seq_read (v := ?_) rfl rfl rfl (fun X hX => ?_) (by assumption) ?_; rotate_left; (focus (go_simp <;> with_reducible rfl)); simp only [Act.put, List.setIfInBounds_toArray, List.set_cons_zero, List.set_cons_succ]))
            refine seq_step rfl rfl rfl (fun K hK => ?_)
            go_simp
            refine (impl_isState).mono ?_
            rw [hA.out]; rintro r w2 ⟨rfl, hx2⟩
            refine hK.out _ _ (Ext.trans (by assumption) hx2) (fun hS => ?_)
            try simp only [Act.put, List.setIfInBounds_toArray, List.set_cons_zero, List.set_cons_succ]
            repeat (first | (refine seq_skip rfl rfl (by assumption) ?_; simp only [Act.put, List.setIfInBounds_toArray, List.set_cons_zero, List.set_cons_succ]) | (refine seq_read (v := ?_) rfl rfl rfl (fun X hX => ?_) (by assumption) ?_; rotate_left; (focus (go_simp <;> with_reducible rfl)); simp only [Act.put, List.setIfInBounds_toArray, List.set_cons_zero, List.set_cons_succ]))
            refine seq_nil ?_
            go_wp2_with fail
            go_ret
            exact ⟨ret_bool (by rw [Hv.out, all_stop Hge.out (by rw [edgeOK, he.out]; dsimp only; rw [edgB, hA.out]; simp)]; simp), Hfin.out _ (by assumption)⟩
          · have HA := hide hA
            clear hA
            have hA := HA; clear HA
            cases hB : (decide (0 ≤ e.to) && decide (e.to < st))
            · have HB := hide hB
              clear hB
              have hB := HB; clear HB
              refine wp_region_ord (fun X => Ext W X) [0, 1, 2, 3, 4, 5, 6, 7, 8, 9, 10, 11, 12, 13, 14, 15, 16, 17, 18, 19, 20, 21, 22, 23, 24, 25, 26, 27, 28, 29, 30, 31, 32, 33, 34, 35, 36, 37, 38, 39] (by kernel_rfl) rfl (by kernel_rfl) (by kernel_rfl) (fun _ _ _ _ _ h => h) ((Ext.refl _).drew) (fun hS => ?_)
              repeat (first | (refine seq_skip rfl rfl (by assumption) ?_; simp only [Act.put, List.setIfInBounds_toArray, List.set_cons_zero, List.set_cons_succ]) | (refine seq_read (v := ?_) rfl rfl rfl (fun X hX => ?_) (by assumption) ?_; rotate_left; (focus (go_simp <;> with_reducible rfl)); simp only [Act.put, List.setIfInBounds_toArray, List.set_cons_zero, List.set_cons_succ]))
              refine seq_step rfl rfl rfl (fun K hK => ?_)
              go_simp
              refine (impl_isState).mono ?_
              rw [hA.out]; rintro r w2 ⟨rfl, hx2⟩
              refine hK.out _ _ (Ext.trans (by assumption) hx2) (fun hS => ?_)
              try simp only [Act.put, List.setIfInBounds_toArray, List.set_cons_zero, List.set_cons_succ]
              repeat (first | (refine seq_skip rfl rfl (by assumption) ?_; simp only [Act.put, List.setIfInBounds_toArray, List.set_cons_zero, List.set_cons_succ]) | (refine seq_read (v := ?_) rfl rfl rfl (fun X hX => ?_) (by assumption) ?_; rotate_left; (focus (go_simp <;> with_reducible rfl)); simp only [Act.put, List.setIfInBounds_toArray, List.set_cons_zero, List.set_cons_succ]))
              refine seq_step rfl rfl rfl (fun K hK => ?_)
              go_simp
              refine (impl_isState).mono ?_
              rw [hB.out]; rintro r w3 ⟨rfl, hx3⟩
              refine hK.out _ _ (Ext.trans (by assumption) hx3) (fun hS => ?_)
              try simp only [Act.put, List.setIfInBounds_toArray, List.set_cons_zero, List.set_cons_succ]
              repeat (first | (refine seq_skip rfl rfl (by assumption) ?_; simp only [Act.put, List.setIfInBounds_toArray, List.set_cons_zero, List.set_cons_succ]) | (refine seq_read (v := ?_) rfl rfl rfl (fun X hX => ?_) (by assumption) ?_; rotate_left; (focus (go_simp <;> with_reducible rfl)); simp only [Act.put, List.setIfInBounds_toArray, List.set_cons_zero, List.set_cons_succ]))
              refine seq_nil ?_
              go_wp2_with fail
              go_ret
              exact ⟨ret_bool (by rw [Hv.out, all_stop Hge.out (by rw [edgeOK, he.out]; dsimp only; rw [edgB, hA.out, hB.out]; simp)]; simp), Hfin.out _ (by assumption)⟩
            · have HB := hide hB
              clear hB
              have hB := HB; clear HB
              by_cases hle : 6 ≤ e.le
              · have hL : decide (6 ≤ e.le) = true := by simp; omega
                refine wp_region_ord (fun X => Ext W X) [0, 1, 2, 3, 4, 5, 6, 7, 8, 9, 10, 11, 12, 13, 14, 15, 16, 17, 18, 19, 20, 21, 22, 23, 24, 25, 26, 27, 28, 29, 30, 31, 32, 33, 34, 35, 36, 37, 38, 39] (by kernel_rfl) rfl (by kernel_rfl) (by kernel_rfl) (fun _ _ _ _ _ h => h) ((Ext.refl _).drew) (fun hS => ?_)
                repeat (first | (refine seq_skip rfl rfl (by assumption) ?_; simp only [Act.put, List.setIfInBounds_toArray, List.set_cons_zero, List.set_cons_succ]) | (refine seq_read (v := ?_) rfl rfl rfl (fun X hX => ?_) (by assumption) ?_; rotate_left; (focus (go_simp <;> with_reducible rfl)); simp only [Act.put, List.setIfInBounds_toArray, List.set_cons_zero, List.set_cons_succ]))
                refine seq_step rfl rfl rfl (fun K hK => ?_)
                go_simp
                refine (impl_isState).mono ?_
                rw [hA.out]; rintro r w2 ⟨rfl, hx2⟩
                refine hK.out _ _ (Ext.trans (by assumption) hx2) (fun hS => ?_)
                try simp only [Act.put, List.setIfInBounds_toArray, List.set_cons_zero, List.set_cons_succ]
                repeat (first | (refine seq_skip rfl rfl (by assumption) ?_; simp only [Act.put, List.setIfInBounds_toArray, List.set_cons_zero, List.set_cons_succ]) | (refine seq_read (v := ?_) rfl rfl rfl (fun X hX => ?_) (by assumption) ?_; rotate_left; (focus (go_simp <;> with_reducible rfl)); simp only [Act.put, List.setIfInBounds_toArray, List.set_cons_zero, List.set_cons_succ]))
                refine seq_step rfl rfl rfl (fun K hK => ?_)
                go_simp
                refine (impl_isState).mono ?_
                rw [hB.out]; rintro r w3 ⟨rfl, hx3⟩
                refine hK.out _ _ (Ext.trans (by assumption) hx3) (fun hS => ?_)
                try simp only [Act.put, List.setIfInBounds_toArray, List.set_cons_zero, List.set_cons_succ]
                repeat (first | (refine seq_skip rfl rfl (by assumption) ?_; simp only [Act.put, List.setIfInBounds_toArray, List.set_cons_zero, List.set_cons_succ]) | (refine seq_read (v := ?_) rfl rfl rfl (fun X hX => ?_) (by assumption) ?_; rotate_left; (focus (go_simp <;> with_reducible rfl)); simp only [Act.put, List.setIfInBounds_toArray, List.set_cons_zero, List.set_cons_succ]))
                refine seq_nil ?_
                go_wp2_with fail
                go_ret
                exact ⟨ret_bool (by rw [Hv.out, all_stop Hge.out (by rw [edgeOK, he.out]; dsimp only; rw [edgB, hA.out, hB.out]; simp; omega)]; simp), Hfin.out _ (by assumption)⟩
              · have hL : decide (6 ≤ e.le) = false := by simp; omega
                have hlt6 := hide (show decide (e.le < 6) = true by simp; omega)
                cases hC : hasB al e.le
                · have HC := hide hC
                  clear hC
                  have hC := HC; clear HC
                  refine wp_region_ord (fun X => Ext W X) [0, 1, 2, 3, 4, 5, 6, 7, 8, 9, 10, 11, 12, 13, 14, 15, 16, 17, 18, 19, 20, 21, 22, 23, 24, 25, 26, 27, 28, 29, 30, 31, 32, 33, 34, 35, 36, 37, 38, 39] (by kernel_rfl) rfl (by kernel_rfl) (by kernel_rfl) (fun _ _ _ _ _ h => h) ((Ext.refl _).drew) (fun hS => ?_)
                  repeat (first | (refine seq_skip rfl rfl (by assumption) ?_; simp only [Act.put, List.setIfInBounds_toArray, List.set_cons_zero, List.set_cons_succ]) | (refine seq_read (v := ?_) rfl rfl rfl (fun X hX => ?_) (by assumption) ?_; rotate_left; (focus (go_simp <;> with_reducible rfl)); simp only [Act.put, List.setIfInBounds_toArray, List.set_cons_zero, List.set_cons_succ]))
                  refine seq_step rfl rfl rfl (fun K hK => ?_)
                  go_simp
                  refine (impl_isState).mono ?_
                  rw [hA.out]; rintro r w2 ⟨rfl, hx2⟩
                  refine hK.out _ _ (Ext.trans (by assumption) hx2) (fun hS => ?_)
                  try simp only [Act.put, List.setIfInBounds_toArray, List.set_cons_zero, List.set_cons_succ]
                  repeat (first | (refine seq_skip rfl rfl (by assumption) ?_; simp only [Act.put, List.setIfInBounds_toArray, List.set_cons_zero, List.set_cons_succ]) | (refine seq_read (v := ?_) rfl rfl rfl (fun X hX => ?_) (by assumption) ?_; rotate_left; (focus (go_simp <;> with_reducible rfl)); simp only [Act.put, List.setIfInBounds_toArray, List.set_cons_zero, List.set_cons_succ]))
                  refine seq_step rfl rfl rfl (fun K hK => ?_)
                  go_simp
                  refine (impl_isState).mono ?_
                  rw [hB.out]; rintro r w3 ⟨rfl, hx3⟩
                  refine hK.out _ _ (Ext.trans (by assumption) hx3) (fun hS => ?_)
                  try simp only [Act.put, List.setIfInBounds_toArray, List.set_cons_zero, List.set_cons_succ]
                  repeat (first | (refine seq_skip rfl rfl (by assumption) ?_; simp only [Act.put, List.setIfInBounds_toArray, List.set_cons_zero, List.set_cons_succ]) | (refine seq_read (v := ?_) rfl rfl rfl (fun X hX => ?_) (by assumption) ?_; rotate_left; (focus (go_simp <;> with_reducible rfl)); simp only [Act.put, List.setIfInBounds_toArray, List.set_cons_zero, List.set_cons_succ]))
                  refine seq_step rfl rfl rfl (fun K hK => ?_)
                  go_simp
                  refine (impl_has _ _ hsm _).mono ?_
                  rw [hC.out]; rintro r w4 ⟨rfl, rfl⟩
                  refine hK.out _ _ (by assumption) (fun hS => ?_)
                  try simp only [Act.put, List.setIfInBounds_toArray, List.set_cons_zero, List.set_cons_succ]
                  repeat (first | (refine seq_skip rfl rfl (by assumption) ?_; simp only [Act.put, List.setIfInBounds_toArray, List.set_cons_zero, List.set_cons_succ]) | (refine seq_read (v := ?_) rfl rfl rfl (fun X hX => ?_) (by assumption) ?_; rotate_left; (focus (go_simp <;> with_reducible rfl)); simp only [Act.put, List.setIfInBounds_toArray, List.set_cons_zero, List.set_cons_succ]))
                  refine seq_nil ?_
                  go_wp2_with fail
                  go_ret
                  exact ⟨ret_bool (by rw [Hv.out, all_stop Hge.out (by rw [edgeOK, he.out]; dsimp only; rw [edgB, hA.out, hB.out, hC.out]; simp)]; simp), Hfin.out _ (by assumption)⟩
                · have HC := hide hC
                  clear hC
                  have hC := HC; clear HC
                  have hedg := hide (show edgB al st e = true by rw [edgB, hA.out, hB.out, hC.out, hlt6.out]; rfl)
                  by_cases hk0 : k = 0
                  · subst hk0
                    refine wp_region_ord (fun X => Ext W X) [0, 1, 2, 3, 4, 5, 6, 7, 8, 9, 10, 11, 12, 13, 14, 15, 16, 17, 18, 19, 20, 21, 22, 23, 24, 25, 26, 27, 28, 29, 30, 31, 32, 33, 34, 35, 36, 37, 38, 39] (by kernel_rfl) rfl (by kernel_rfl) (by kernel_rfl) (fun _ _ _ _ _ h => h) ((Ext.refl _).drew) (fun hS => ?_)
                    repeat (first | (refine seq_skip rfl rfl (by assumption) ?_; simp only [Act.put, List.setIfInBounds_toArray, List.set_cons_zero, List.set_cons_succ]) | (refine seq_read (v := ?_) rfl rfl rfl (fun X hX => ?_) (by assumption) ?_; rotate_left; (focus (go_simp <;> with_reducible rfl)); simp only [Act.put, List.setIfInBounds_toArray, List.set_cons_zero, List.set_cons_succ]))
                    refine seq_step rfl rfl rfl (fun K hK => ?_)
                    go_simp
                    refine (impl_isState).mono ?_
                    rw [hA.out]; rintro r w2 ⟨rfl, hx2⟩
                    refine hK.out _ _ (Ext.trans (by assumption) hx2) (fun hS => ?_)
                    try simp only [Act.put, List.setIfInBounds_toArray, List.set_cons_zero, List.set_cons_succ]
                    repeat (first | (refine seq_skip rfl rfl (by assumption) ?_; simp only [Act.put, List.setIfInBounds_toArray, List.set_cons_zero, List.set_cons_succ]) | (refine seq_read (v := ?_) rfl rfl rfl (fun X hX => ?_) (by assumption) ?_; rotate_left; (focus (go_simp <;> with_reducible rfl)); simp only [Act.put, List.setIfInBounds_toArray, List.set_cons_zero, List.set_cons_succ]))
                    refine seq_step rfl rfl rfl (fun K hK => ?_)
                    go_simp
                    refine (impl_isState).mono ?_
                    rw [hB.out]; rintro r w3 ⟨rfl, hx3⟩
                    refine hK.out _ _ (Ext.trans (by assumption) hx3) (fun hS => ?_)
                    try simp only [Act.put, List.setIfInBounds_toArray, List.set_cons_zero, List.set_cons_succ]
                    repeat (first | (refine seq_skip rfl rfl (by assumption) ?_; simp only [Act.put, List.setIfInBounds_toArray, List.set_cons_zero, List.set_cons_succ]) | (refine seq_read (v := ?_) rfl rfl rfl (fun X hX => ?_) (by assumption) ?_; rotate_left; (focus (go_simp <;> with_reducible rfl)); simp only [Act.put, List.setIfInBounds_toArray, List.set_cons_zero, List.set_cons_succ]))
                    refine seq_step rfl rfl rfl (fun K hK => ?_)
                    go_simp
                    refine (impl_has _ _ hsm _).mono ?_
                    rw [hC.out]; rintro r w4 ⟨rfl, rfl⟩
                    refine hK.out _ _ (by assumption) (fun hS => ?_)
                    try simp only [Act.put, List.setIfInBounds_toArray, List.set_cons_zero, List.set_cons_succ]
                    repeat (first | (refine seq_skip rfl rfl (by assumption) ?_; simp only [Act.put, List.setIfInBounds_toArray, List.set_cons_zero, List.set_cons_succ]) | (refine seq_read (v := ?_) rfl rfl rfl (fun X hX => ?_) (by assumption) ?_; rotate_left; (focus (go_simp <;> with_reducible rfl)); simp only [Act.put, List.setIfInBounds_toArray, List.set_cons_zero, List.set_cons_succ]))
                    refine seq_nil ?_
                    go_wp2_with fail
                    go_roundw
                    case rel => exact ⟨0 + 1, by omega, by go_num, all_step Hge.out hall.out (by rw [edgeOK, he.out]; dsimp only; rw [hedg.out]; simp), (hext.trans hx).trans (by assumption)⟩
                    case measure => simp [intOf]; omega
                  · obtain ⟨j, rfl⟩ : ∃ j, k = j + 1 := ⟨k - 1, by omega⟩
                    have hp : s.edges[j]? = some (s.edges[j]'(by have := h.1; omega)) := List.getElem?_eq_getElem _
                    generalize s.edges[j]'(by have := h.1; omega) = p at hp
                    have Hp := hide hp
                    clear hp
                    have hpc := (HR.out wr (((Ext.refl _).alloc _).trans hext)).edge2 Hp.out
                    have p0 : ∀ X, Ext W X → X.cell? ⟨b, o + j * 3, none⟩ = some (.int .i64 p.fr) := fun X hX => (hx.trans hX).cell_some hpc.1
                    have p1 : ∀ X, Ext W X → X.cell? ⟨b, o + j * 3 + 1, none⟩ = some (.int .i64 p.le) := fun X hX => (hx.trans hX).cell_some hpc.2.1
                    have p2 : ∀ X, Ext W X → X.cell? ⟨b, o + j * 3 + 2, none⟩ = some (.int .i64 p.to) := fun X hX => (hx.trans hX).cell_some hpc.2.2
                    clear hpc
                    have hk1 : decide ((0 : Int) < (j : Int) + 1) = true := decide_eq_true (by omega)
                    have hw1 : IntKind.i64.wrap ((j : Int) + 1 - 1) = (j : Int) := by rw [IntKind.wrap_i64]; omega
                    have hw2 : IntKind.i64.wrap (j : Int) = (j : Int) := by rw [IntKind.wrap_i64]; omega
                    have hj0 : (0 : Int) ≤ (j : Int) := by omega
                    have hj1 : (j : Int) < (n : Int) := by omega
                    have hpl := cmpE_lt p e
                    have Hpl := hide hpl
                    clear hpl
                    by_cases hc : 0 ≤ cmpE p e
                    · have hcd : decide (0 ≤ cmpE p e) = true := by simpa using hc
                      have hnl := hide (show ltE p e = false by rw [Bool.eq_false_iff]; intro hh; have := Hpl.out.2 hh; omega)
                      refine wp_region_ord (fun X => Ext W X) [0, 1, 2, 3, 4, 5, 6, 7, 8, 9, 10, 11, 12, 13, 14, 15, 16, 17, 18, 19, 20, 21, 22, 23, 24, 25, 26, 27, 28, 29, 30, 31, 32, 33, 34, 35, 36, 37, 38, 39] (by kernel_rfl) rfl (by kernel_rfl) (by kernel_rfl) (fun _ _ _ _ _ h => h) ((Ext.refl _).drew) (fun hS => ?_)
                      repeat (first | (refine seq_skip rfl rfl (by assumption) ?_; simp only [Act.put, List.setIfInBounds_toArray, List.set_cons_zero, List.set_cons_succ]) | (refine seq_read (v := ?_) rfl rfl rfl (fun X hX => ?_) (by assumption) ?_; rotate_left; (focus (go_simp <;> with_reducible rfl)); simp only [Act.put, List.setIfInBounds_toArray, List.set_cons_zero, List.set_cons_succ]))
                      refine seq_step rfl rfl rfl (fun K hK => ?_)
                      go_simp
                      refine (impl_isState).mono ?_
                      rw [hA.out]; rintro r w2 ⟨rfl, hx2⟩
                      refine hK.out _ _ (Ext.trans (by assumption) hx2) (fun hS => ?_)
                      try simp only [Act.put, List.setIfInBounds_toArray, List.set_cons_zero, List.set_cons_succ]
                      repeat (first | (refine seq_skip rfl rfl (by assumption) ?_; simp only [Act.put, List.setIfInBounds_toArray, List.set_cons_zero, List.set_cons_succ]) | (refine seq_read (v := ?_) rfl rfl rfl (fun X hX => ?_) (by assumption) ?_; rotate_left; (focus (go_simp <;> with_reducible rfl)); simp only [Act.put, List.setIfInBounds_toArray, List.set_cons_zero, List.set_cons_succ]))
                      refine seq_step rfl rfl rfl (fun K hK => ?_)
                      go_simp
                      refine (impl_isState).mono ?_
                      rw [hB.out]; rintro r w3 ⟨rfl, hx3⟩
                      refine hK.out _ _ (Ext.trans (by assumption) hx3) (fun hS => ?_)
                      try simp only [Act.put, List.setIfInBounds_toArray, List.set_cons_zero, List.set_cons_succ]
                      repeat (first | (refine seq_skip rfl rfl (by assumption) ?_; simp only [Act.put, List.setIfInBounds_toArray, List.set_cons_zero, List.set_cons_succ]) | (refine seq_read (v := ?_) rfl rfl rfl (fun X hX => ?_) (by assumption) ?_; rotate_left; (focus (go_simp <;> with_reducible rfl)); simp only [Act.put, List.setIfInBounds_toArray, List.set_cons_zero, List.set_cons_succ]))
                      refine seq_step rfl rfl rfl (fun K hK => ?_)
                      go_simp
                      refine (impl_has _ _ hsm _).mono ?_
                      rw [hC.out]; rintro r w4 ⟨rfl, rfl⟩
                      refine hK.out _ _ (by assumption) (fun hS => ?_)
                      try simp only [Act.put, List.setIfInBounds_toArray, List.set_cons_zero, List.set_cons_succ]
                      repeat (first | (refine seq_skip rfl rfl (by assumption) ?_; simp only [Act.put, List.setIfInBounds_toArray, List.set_cons_zero, List.set_cons_succ]) | (refine seq_read (v := ?_) rfl rfl rfl (fun X hX => ?_) (by assumption) ?_; rotate_left; (focus (go_simp <;> with_reducible rfl)); simp only [Act.put, List.setIfInBounds_toArray, List.set_cons_zero, List.set_cons_succ]))
                      refine seq_step rfl rfl rfl (fun K hK => ?_)
                      go_simp
                      refine (impl_compareEdges (a := p) (b := e)).mono ?_
                      rintro r w5 ⟨rfl, hx5⟩
                      refine hK.out _ _ (Ext.trans (by assumption) hx5) (fun hS => ?_)
                      try simp only [Act.put, List.setIfInBounds_toArray, List.set_cons_zero, List.set_cons_succ]
                      repeat (first | (refine seq_skip rfl rfl (by assumption) ?_; simp only [Act.put, List.setIfInBounds_toArray, List.set_cons_zero, List.set_cons_succ]) | (refine seq_read (v := ?_) rfl rfl rfl (fun X hX => ?_) (by assumption) ?_; rotate_left; (focus (go_simp <;> with_reducible rfl)); simp only [Act.put, List.setIfInBounds_toArray, List.set_cons_zero, List.set_cons_succ]))
                      refine seq_nil ?_
                      go_wp2_with fail
                      go_ret
                      exact ⟨ret_bool (by rw [Hv.out, all_stop Hge.out (by rw [edgeOK, he.out]; dsimp only; rw [Nat.add_sub_cancel, Hp.out]; simp [hnl.out])]; simp), Hfin.out _ (by assumption)⟩
                    · have hcd : decide (0 ≤ cmpE p e) = false := by simp; omega
                      have hnl := hide (show ltE p e = true from Hpl.out.1 (by omega))
                      refine wp_region_ord (fun X => Ext W X) [0, 1, 2, 3, 4, 5, 6, 7, 8, 9, 10, 11, 12, 13, 14, 15, 16, 17, 18, 19, 20, 21, 22, 23, 24, 25, 26, 27, 28, 29, 30, 31, 32, 33, 34, 35, 36, 37, 38, 39] (by kernel_rfl) rfl (by kernel_rfl) (by kernel_rfl) (fun _ _ _ _ _ h => h) ((Ext.refl _).drew) (fun hS => ?_)
                      repeat (first | (refine seq_skip rfl rfl (by assumption) ?_; simp only [Act.put, List.setIfInBounds_toArray, List.set_cons_zero, List.set_cons_succ]) | (refine seq_read (v := ?_) rfl rfl rfl (fun X hX => ?_) (by assumption) ?_; rotate_left; (focus (go_simp <;> with_reducible rfl)); simp only [Act.put, List.setIfInBounds_toArray, List.set_cons_zero, List.set_cons_succ]))
                      refine seq_step rfl rfl rfl (fun K hK => ?_)
                      go_simp
                      refine (impl_isState).mono ?_
                      rw [hA.out]; rintro r w2 ⟨rfl, hx2⟩
                      refine hK.out _ _ (Ext.trans (by assumption) hx2) (fun hS => ?_)
                      try simp only [Act.put, List.setIfInBounds_toArray, List.set_cons_zero, List.set_cons_succ]
                      repeat (first | (refine seq_skip rfl rfl (by assumption) ?_; simp only [Act.put, List.setIfInBounds_toArray, List.set_cons_zero, List.set_cons_succ]) | (refine seq_read (v := ?_) rfl rfl rfl (fun X hX => ?_) (by assumption) ?_; rotate_left; (focus (go_simp <;> with_reducible rfl)); simp only [Act.put, List.setIfInBounds_toArray, List.set_cons_zero, List.set_cons_succ]))
                      refine seq_step rfl rfl rfl (fun K hK => ?_)
                      go_simp
                      refine (impl_isState).mono ?_
                      rw [hB.out]; rintro r w3 ⟨rfl, hx3⟩
                      refine hK.out _ _ (Ext.trans (by assumption) hx3) (fun hS => ?_)
                      try simp only [Act.put, List.setIfInBounds_toArray, List.set_cons_zero, List.set_cons_succ]
                      repeat (first | (refine seq_skip rfl rfl (by assumption) ?_; simp only [Act.put, List.setIfInBounds_toArray, List.set_cons_zero, List.set_cons_succ]) | (refine seq_read (v := ?_) rfl rfl rfl (fun X hX => ?_) (by assumption) ?_; rotate_left; (focus (go_simp <;> with_reducible rfl)); simp only [Act.put, List.setIfInBounds_toArray, List.set_cons_zero, List.set_cons_succ]))
                      refine seq_step rfl rfl rfl (fun K hK => ?_)
                      go_simp
                      refine (impl_has _ _ hsm _).mono ?_
                      rw [hC.out]; rintro r w4 ⟨rfl, rfl⟩
                      refine hK.out _ _ (by assumption) (fun hS => ?_)
                      try simp only [Act.put, List.setIfInBounds_toArray, List.set_cons_zero, List.set_cons_succ]
                      repeat (first | (refine seq_skip rfl rfl (by assumption) ?_; simp only [Act.put, List.setIfInBounds_toArray, List.set_cons_zero, List.set_cons_succ]) | (refine seq_read (v := ?_) rfl rfl rfl (fun X hX => ?_) (by assumption) ?_; rotate_left; (focus (go_simp <;> with_reducible rfl)); simp only [Act.put, List.setIfInBounds_toArray, List.set_cons_zero, List.set_cons_succ]))
                      refine seq_step rfl rfl rfl (fun K hK => ?_)
                      go_simp
                      refine (impl_compareEdges (a := p) (b := e)).mono ?_
                      rintro r w5 ⟨rfl, hx5⟩
                      refine hK.out _ _ (Ext.trans (by assumption) hx5) (fun hS => ?_)
                      try simp only [Act.put, List.setIfInBounds_toArray, List.set_cons_zero, List.set_cons_succ]
                      repeat (first | (refine seq_skip rfl rfl (by assumption) ?_; simp only [Act.put, List.setIfInBounds_toArray, List.set_cons_zero, List.set_cons_succ]) | (refine seq_read (v := ?_) rfl rfl rfl (fun X hX => ?_) (by assumption) ?_; rotate_left; (focus (go_simp <;> with_reducible rfl)); simp only [Act.put, List.setIfInBounds_toArray, List.set_cons_zero, List.set_cons_succ]))
                      refine seq_nil ?_
                      go_wp2_with fail
                      go_roundw
                      case rel => exact ⟨j + 1 + 1, by omega, by go_num, all_step Hge.out hall.out (by rw [edgeOK, he.out]; dsimp only; rw [Nat.add_sub_cancel, Hp.out, hedg.out]; simp [hnl.out]), (hext.trans hx).trans (by assumption)⟩
                      case measure => simp [intOf]; omega
        · obtain rfl : k = n := by omega
          go_wp2
          go_ret
          exact ⟨ret_bool (by rw [Hv.out, all_end (by simp) hall.out, hd.out]; simp; omega), ((Ext.refl _).alloc _).trans hext⟩
    · go_enter Tryd.func31, Tryd.ntmps31
      have hd := hide (show decide (0 ≤ s.al ∧ s.al ≤ 63) = true by simp; omega)
      go_wp2_with (go_at_call 56; refine (impl_isAlphabet _ _).mono ?_; rw [hd.out]; rintro e w' ⟨rfl, rfl⟩)
      all_goals go_ret
      all_goals exact ⟨ret_bool (by rw [Hv.out]; simp [hst]), (Ext.refl _).alloc _⟩
  · go_enter Tryd.func31, Tryd.ntmps31
    have hd := hide (show decide (0 ≤ s.al ∧ s.al ≤ 63) = false by simp; omega)
    go_wp2_with (go_at_call 56; refine (impl_isAlphabet _ _).mono ?_; rw [hd.out]; rintro e w' ⟨rfl, rfl⟩)
    go_ret
    exact ⟨ret_bool (by rw [Hv.out]; simp; omega), (Ext.refl _).alloc _⟩
end Go.Proofs.YtbifoikcmjmdeaaDoor

namespace Go.Proofs.YtbifoikcmjmdeaaDoor
open Go Go.RowKit
set_option maxHeartbeats 4000000

theorem spec_l2Edge {al : Nat} {st : Int} {e : Edg} {w : World} (hsm : Sm al) :
    Calls Tryd.prog 75 #[.int .i64 al, .int .i64 st, .agg #[.int .i64 e.fr, .int .i64 e.le, .int .i64 e.to]] w fun r w' => r = .returned (.bool (edgB al st e)) ∧ Ext w w' := by
  have Hv := hide (show edgB al st e = ((decide (0 ≤ e.fr) && decide (e.fr < st)) && ((decide (0 ≤ e.to) && decide (e.to < st)) && (decide (e.le < 6) && hasB al e.le))) from rfl)
  by_cases h0 : e.fr < 0
  · go_enter Tryd.func75, Tryd.ntmps75
    go_wp2
    go_ret
    exact ⟨ret_bool (by rw [Hv.out]; simp; omega), (Ext.refl _).alloc _⟩
  · by_cases h1 : st ≤ e.fr
    · go_enter Tryd.func75, Tryd.ntmps75
      go_wp2
      go_ret
      exact ⟨ret_bool (by rw [Hv.out]; simp; omega), (Ext.refl _).alloc _⟩
    · by_cases h2 : e.to < 0
      · go_enter Tryd.func75, Tryd.ntmps75
        go_wp2
        go_ret
        exact ⟨ret_bool (by rw [Hv.out]; simp; omega), (Ext.refl _).alloc _⟩
      · by_cases h3 : st ≤ e.to
        · go_enter Tryd.func75, Tryd.ntmps75
          go_wp2
          go_ret
          exact ⟨ret_bool (by rw [Hv.out]; simp; omega), (Ext.refl _).alloc _⟩
        · by_cases h4 : 0 ≤ e.le
          · by_cases h5 : e.le < 6
            · obtain ⟨le, hle⟩ : ∃ le : Nat, Hid (e.le = le) := ⟨e.le.toNat, by unfold Hid; omega⟩
              have hl6 : (le : Int) < 6 := by have := hle.out; omega
              clear h4 h5
              rw [hle.out]
              go_enter Tryd.func75, Tryd.ntmps75
              go_wp2_with (go_at_call 29; refine (spec_l1Has al le hsm _ (by omega)).mono ?_; rintro r w' ⟨rfl, rfl⟩)
              go_ret
              exact ⟨ret_bool (by rw [Hv.out, hle.out, decide_eq_true (show 0 ≤ e.fr by omega), decide_eq_true (show e.fr < st by omega), decide_eq_true (show 0 ≤ e.to by omega), decide_eq_true (show e.to < st by omega), decide_eq_true hl6]; simp [hasB]), (Ext.refl _).alloc _⟩
            · go_enter Tryd.func75, Tryd.ntmps75
              go_wp2_with fail
              go_ret
              exact ⟨ret_bool (by rw [Hv.out]; simp; omega), (Ext.refl _).alloc _⟩
          · go_enter Tryd.func75, Tryd.ntmps75
            go_wp2_with fail
            go_ret
            exact ⟨ret_bool (by rw [Hv.out]; simp [hasB]; omega), (Ext.refl _).alloc _⟩

theorem spec_l2Before {a b : Edg} {w : World} :
    Calls Tryd.prog 76 #[.agg #[.int .i64 a.fr, .int .i64 a.le, .int .i64 a.to], .agg #[.int .i64 b.fr, .int .i64 b.le, .int .i64 b.to]] w fun e w' => e = .returned (.bool (ltE a b)) ∧ Ext w w' := by
  have Hv := hide (show ltE a b = if a.fr = b.fr then if a.le = b.le then decide (a.to < b.to) else decide (a.le < b.le) else decide (a.fr < b.fr) from rfl)
  have hx : Ext w ((w.alloc (.cells #[Value.int .i64 a.fr, .int .i64 a.le, .int .i64 a.to] 48)).alloc (.cells #[Value.int .i64 b.fr, .int .i64 b.le, .int .i64 b.to] 48)) := ((Ext.refl _).alloc _).alloc _
  have Hx := hide hx
  clear hx
  by_cases h0 : a.fr = b.fr
  · have n0 : (a.fr != b.fr) = false := by simp [h0]
    have H0 := hide h0
    clear h0
    by_cases h1 : a.le = b.le
    · have n1 : (a.le != b.le) = false := by simp [h1]
      have H1 := hide h1
      clear h1
      go_enter Tryd.func76, Tryd.ntmps76
      go_wp2
      go_ret
      exact ⟨ret_bool (by rw [Hv.out, if_pos H0.out, if_pos H1.out]), Hx.out⟩
    · have n1 : (a.le != b.le) = true := by simp [h1]
      go_enter Tryd.func76, Tryd.ntmps76
      go_wp2
      go_ret
      exact ⟨ret_bool (by rw [Hv.out, if_pos H0.out, if_neg h1]), Hx.out⟩
  · have n0 : (a.fr != b.fr) = true := by simp [h0]
    go_enter Tryd.func76, Tryd.ntmps76
    go_wp2
    go_ret
    exact ⟨ret_bool (by rw [Hv.out, if_neg h0]), Hx.out⟩

theorem spec_SystemValid {lo hi : Nat} {A : Option Addr} {n c : Nat} {s : Sys} {w : World} (h : SysAt w lo hi A n s) :
    Calls Tryd.prog 46 #[.agg #[.int .i64 s.al, .int .i64 s.st, .slice A n c]] w fun e w' => e = .returned (.bool (sysValid s)) ∧ Ext w w' := by
  have Hv := hide (show sysValid s = (decide (0 ≤ s.al ∧ s.al ≤ 63) && (decide (1 ≤ s.st ∧ s.st ≤ 16) && (List.range n).all (edgeOK s.al.toNat s.st s.edges))) by unfold sysValid; rw [← h.1])
  have hn := h.2.len
  by_cases hal : 0 ≤ s.al ∧ s.al ≤ 63
  · by_cases hst : 1 ≤ s.st ∧ s.st ≤ 16
    · obtain ⟨al, hal'⟩ : ∃ al : Nat, Hid (s.al = al) := ⟨s.al.toNat, by unfold Hid; omega⟩
      have hsm : Sm al := by have := hal'.out; unfold Sm; omega
      have hd := hide (show decide (0 ≤ (al : Int) ∧ (al : Int) ≤ 63) = true by have := hal'.out; simp; omega)
      rw [hal'.out]
      rw [hal'.out, Int.toNat_natCast] at Hv
      clear hal
      have hd1 : decide (s.st < 1) = false := by simp; omega
      have hd2 : decide (16 < s.st) = false := by simp; omega
      obtain ⟨st, hst', hs1, hs2⟩ : ∃ st : Int, Hid (s.st = st) ∧ 1 ≤ st ∧ st ≤ 16 := ⟨s.st, hide rfl, hst.1, hst.2⟩
      rw [hst'.out] at hd1 hd2 Hv ⊢
      clear hst
      have hR := fun W (hW : Ext w W) => h.2.ext hW
      have HR := hide hR
      clear hR
      go_enter Tryd.func46, Tryd.ntmps46
      go_wp2_with (go_at_call 74; refine (spec_l1Alphabet _ _).mono ?_; rw [hd.out]; rintro e w' ⟨rfl, rfl⟩)
      go_loopw [3] (fun i wr => ∃ k : Nat, k ≤ n ∧ i = .int .i64 k ∧ Hid (((List.range n).take k).all (edgeOK al st s.edges) = true) ∧ Ext (w.alloc (.cells #[Value.int .i64 al, .int .i64 st, Value.slice A n c] 25)) wr)
        (fun i _ => n - (intOf i).toNat)
      case atStart => exact ⟨0, Nat.zero_le _, rfl, rfl, Ext.refl _⟩
      case round =>
        obtain ⟨k, hk, rfl, hall, hext⟩ := hrel
        have hbx := ext_box hext
        by_cases hlt : k < n
        · obtain ⟨b, o, e, rfl, hlo, hhi, he, c0, c1, c2⟩ := (HR.out wr (((Ext.refl _).alloc _).trans hext)).edge hlt
          go_wp2_with fail
          clear hbx
          have e0 : ∀ X, Ext wr X → ∀ j, X.cell? ⟨w.heap.size, j, none⟩ = #[Value.int .i64 al, .int .i64 st, Value.slice (some ⟨b, o, none⟩) n c][j]? := fun X hX => ext_box (hext.trans hX)
          have q0 : ∀ X, Ext wr X → X.cell? ⟨b, o + k * 3, none⟩ = some (.int .i64 e.fr) := fun X hX => hX.cell_some c0
          have q1 : ∀ X, Ext wr X → X.cell? ⟨b, o + k * 3 + 1, none⟩ = some (.int .i64 e.le) := fun X hX => hX.cell_some c1
          have q2 : ∀ X, Ext wr X → X.cell? ⟨b, o + k * 3 + 2, none⟩ = some (.int .i64 e.to) := fun X hX => hX.cell_some c2
          have hr := Ext.refl wr
          clear c0 c1 c2
          have hfin : ∀ X, Ext wr X → Ext w X := fun X hX => (((Ext.refl _).alloc _).trans hext).trans hX
          have Hfin := hide hfin
          clear hfin
          have hk0' : (0 : Int) ≤ (k : Int) := by omega
          have hk1' : (k : Int) < (n : Int) := by omega
          have hge : (List.range n)[k]? = some k := by rw [List.getElem?_range hlt]
          have Hge := hide hge
          clear hge
          cases hA' : edgB al st e
          · have hA := hide hA'
            clear hA'
            refine wp_region_ord (fun X => Ext wr X) [0, 1, 2, 3, 4, 5, 6, 7, 8, 9, 10, 11, 12, 13, 14, 15, 16, 17, 18, 19, 20, 21, 22, 23, 24, 25, 26, 27, 28, 29] (by kernel_rfl) rfl (by kernel_rfl) (by kernel_rfl) (fun _ _ _ _ _ h => h) ((Ext.refl _).drew) (fun hS => ?_)
            repeat (first | (refine seq_skip rfl rfl (by assumption) ?_; simp only [Act.put, List.setIfInBounds_toArray, List.set_cons_zero, List.set_cons_succ]) | (refine seq_read (v := ?_) rfl rfl rfl (fun X hX => ?_) (by assumption) ?_; rotate_left; (focus (go_simp <;> with_reducible rfl)); simp only [Act.put, List.setIfInBounds_toArray, List.set_cons_zero, List.set_cons_succ]))
            refine seq_step rfl rfl rfl (fun K hK => ?_)
            go_simp
            refine (spec_l2Edge (e := e) hsm).mono ?_
            rw [hA.out]; rintro r w2 ⟨rfl, hx2⟩
            refine hK.out _ _ (Ext.trans (by assumption) hx2) (fun hS => ?_)
            try simp only [Act.put, List.setIfInBounds_toArray, List.set_cons_zero, List.set_cons_succ]
            repeat (first | (refine seq_skip rfl rfl (by assumption) ?_; simp only [Act.put, List.setIfInBounds_toArray, List.set_cons_zero, List.set_cons_succ]) | (refine seq_read (v := ?_) rfl rfl rfl (fun X hX => ?_) (by assumption) ?_; rotate_left; (focus (go_simp <;> with_reducible rfl)); simp only [Act.put, List.setIfInBounds_toArray, List.set_cons_zero, List.set_cons_succ]))
            refine seq_nil ?_
            go_wp2_with fail
            go_ret
            exact ⟨ret_bool (by rw [Hv.out, all_stop Hge.out (by rw [edgeOK, he.out]; dsimp only; rw [hA.out]; simp)]; simp), Hfin.out _ (by assumption)⟩
          · have hA := hide hA'
            clear hA'
            by_cases hk0 : k = 0
            · subst hk0
              simp only [Nat.zero_mul, Nat.add_zero] at q0 q1 q2
              refine wp_region_ord (fun X => Ext wr X) [0, 1, 2, 3, 4, 5, 6, 7, 8, 9, 10, 11, 12, 13, 14, 15, 16, 17, 18, 19, 20, 21, 22, 23, 24, 25, 26, 27, 28, 29] (by kernel_rfl) rfl (by kernel_rfl) (by kernel_rfl) (fun _ _ _ _ _ h => h) ((Ext.refl _).drew) (fun hS => ?_)
              repeat (first | (refine seq_skip rfl rfl (by assumption) ?_; simp only [Act.put, List.setIfInBounds_toArray, List.set_cons_zero, List.set_cons_succ]) | (refine seq_read (v := ?_) rfl rfl rfl (fun X hX => ?_) (by assumption) ?_; rotate_left; (focus (go_simp <;> with_reducible rfl)); simp only [Act.put, List.setIfInBounds_toArray, List.set_cons_zero, List.set_cons_succ]))
              refine seq_step rfl rfl rfl (fun K hK => ?_)
              go_simp
              refine (spec_l2Edge (e := e) hsm).mono ?_
              rw [hA.out]; rintro r w2 ⟨rfl, hx2⟩
              refine hK.out _ _ (Ext.trans (by assumption) hx2) (fun hS => ?_)
              try simp only [Act.put, List.setIfInBounds_toArray, List.set_cons_zero, List.set_cons_succ]
              repeat (first | (refine seq_skip rfl rfl (by assumption) ?_; simp only [Act.put, List.setIfInBounds_toArray, List.set_cons_zero, List.set_cons_succ]) | (refine seq_read (v := ?_) rfl rfl rfl (fun X hX => ?_) (by assumption) ?_; rotate_left; (focus (go_simp <;> with_reducible rfl)); simp only [Act.put, List.setIfInBounds_toArray, List.set_cons_zero, List.set_cons_succ]))
              refine seq_nil ?_
              go_wp2_with fail
              go_roundw
              case rel => exact ⟨0 + 1, by omega, by go_num, all_step Hge.out hall.out (by rw [edgeOK, he.out]; dsimp only; rw [hA.out]; simp), hext.trans (by assumption)⟩
              case measure => simp [intOf]; omega
            · obtain ⟨j, rfl⟩ : ∃ j, k = j + 1 := ⟨k - 1, by omega⟩
              have hp : s.edges[j]? = some (s.edges[j]'(by have := h.1; omega)) := List.getElem?_eq_getElem _
              generalize s.edges[j]'(by have := h.1; omega) = p at hp
              have Hp := hide hp
              clear hp
              have hpc := (HR.out wr (((Ext.refl _).alloc _).trans hext)).edge2 Hp.out
              have p0 : ∀ X, Ext wr X → X.cell? ⟨b, o + j * 3, none⟩ = some (.int .i64 p.fr) := fun X hX => hX.cell_some hpc.1
              have p1 : ∀ X, Ext wr X → X.cell? ⟨b, o + j * 3 + 1, none⟩ = some (.int .i64 p.le) := fun X hX => hX.cell_some hpc.2.1
              have p2 : ∀ X, Ext wr X → X.cell? ⟨b, o + j * 3 + 2, none⟩ = some (.int .i64 p.to) := fun X hX => hX.cell_some hpc.2.2
              clear hpc
              have hk1 : decide ((0 : Int) < (j : Int) + 1) = true := decide_eq_true (by omega)
              have hw1 : IntKind.i64.wrap ((j : Int) + 1 - 1) = (j : Int) := by rw [IntKind.wrap_i64]; omega
              have hw2 : IntKind.i64.wrap (j : Int) = (j : Int) := by rw [IntKind.wrap_i64]; omega
              have hj0 : (0 : Int) ≤ (j : Int) := by omega
              have hj1 : (j : Int) < (n : Int) := by omega
              have hj2 : (0 : Int) ≤ (j : Int) + 1 := by omega
              have hj3 : (j : Int) + 1 < (n : Int) := by omega
              have hj4 : ((j : Int) + 1).toNat = j + 1 := by omega
              cases hnl' : ltE p e
              · have hnl := hide hnl'
                clear hnl'
                refine wp_region_ord (fun X => Ext wr X) [0, 1, 2, 3, 4, 5, 6, 7, 8, 9, 10, 11, 12, 13, 14, 15, 16, 17, 18, 19, 20, 21, 22, 23, 24, 25, 26, 27, 28, 29] (by kernel_rfl) rfl (by kernel_rfl) (by kernel_rfl) (fun _ _ _ _ _ h => h) ((Ext.refl _).drew) (fun hS => ?_)
                repeat (first | (refine seq_skip rfl rfl (by assumption) ?_; simp only [Act.put, List.setIfInBounds_toArray, List.set_cons_zero, List.set_cons_succ]) | (refine seq_read (v := ?_) rfl rfl rfl (fun X hX => ?_) (by assumption) ?_; rotate_left; (focus (go_simp <;> with_reducible rfl)); simp only [Act.put, List.setIfInBounds_toArray, List.set_cons_zero, List.set_cons_succ]))
                refine seq_step rfl rfl rfl (fun K hK => ?_)
                go_simp
                refine (spec_l2Edge (e := e) hsm).mono ?_
                rw [hA.out]; rintro r w2 ⟨rfl, hx2⟩
                refine hK.out _ _ (Ext.trans (by assumption) hx2) (fun hS => ?_)
                try simp only [Act.put, List.setIfInBounds_toArray, List.set_cons_zero, List.set_cons_succ]
                repeat (first | (refine seq_skip rfl rfl (by assumption) ?_; simp only [Act.put, List.setIfInBounds_toArray, List.set_cons_zero, List.set_cons_succ]) | (refine seq_read (v := ?_) rfl rfl rfl (fun X hX => ?_) (by assumption) ?_; rotate_left; (focus (go_simp <;> with_reducible rfl)); simp only [Act.put, List.setIfInBounds_toArray, List.set_cons_zero, List.set_cons_succ]))
                refine seq_step rfl rfl rfl (fun K hK => ?_)
                go_simp
                refine (spec_l2Before (a := p) (b := e)).mono ?_
                rw [hnl.out]; rintro r w3 ⟨rfl, hx3⟩
                refine hK.out _ _ (Ext.trans (by assumption) hx3) (fun hS => ?_)
                try simp only [Act.put, List.setIfInBounds_toArray, List.set_cons_zero, List.set_cons_succ]
                repeat (first | (refine seq_skip rfl rfl (by assumption) ?_; simp only [Act.put, List.setIfInBounds_toArray, List.set_cons_zero, List.set_cons_succ]) | (refine seq_read (v := ?_) rfl rfl rfl (fun X hX => ?_) (by assumption) ?_; rotate_left; (focus (go_simp <;> with_reducible rfl)); simp only [Act.put, List.setIfInBounds_toArray, List.set_cons_zero, List.set_cons_succ]))
                refine seq_nil ?_
                go_wp2_with fail
                go_ret
                exact ⟨ret_bool (by rw [Hv.out, all_stop Hge.out (by rw [edgeOK, he.out]; dsimp only; rw [Nat.add_sub_cancel, Hp.out]; simp [hnl.out])]; simp), Hfin.out _ (by assumption)⟩
              · have hnl := hide hnl'
                clear hnl'
                refine wp_region_ord (fun X => Ext wr X) [0, 1, 2, 3, 4, 5, 6, 7, 8, 9, 10, 11, 12, 13, 14, 15, 16, 17, 18, 19, 20, 21, 22, 23, 24, 25, 26, 27, 28, 29] (by kernel_rfl) rfl (by kernel_rfl) (by kernel_rfl) (fun _ _ _ _ _ h => h) ((Ext.refl _).drew) (fun hS => ?_)
                repeat (first | (refine seq_skip rfl rfl (by assumption) ?_; simp only [Act.put, List.setIfInBounds_toArray, List.set_cons_zero, List.set_cons_succ]) | (refine seq_read (v := ?_) rfl rfl rfl (fun X hX => ?_) (by assumption) ?_; rotate_left; (focus (go_simp <;> with_reducible rfl)); simp only [Act.put, List.setIfInBounds_toArray, List.set_cons_zero, List.set_cons_succ]))
                refine seq_step rfl rfl rfl (fun K hK => ?_)
                go_simp
                refine (spec_l2Edge (e := e) hsm).mono ?_
                rw [hA.out]; rintro r w2 ⟨rfl, hx2⟩
                refine hK.out _ _ (Ext.trans (by assumption) hx2) (fun hS => ?_)
                try simp only [Act.put, List.setIfInBounds_toArray, List.set_cons_zero, List.set_cons_succ]
                repeat (first | (refine seq_skip rfl rfl (by assumption) ?_; simp only [Act.put, List.setIfInBounds_toArray, List.set_cons_zero, List.set_cons_succ]) | (refine seq_read (v := ?_) rfl rfl rfl (fun X hX => ?_) (by assumption) ?_; rotate_left; (focus (go_simp <;> with_reducible rfl)); simp only [Act.put, List.setIfInBounds_toArray, List.set_cons_zero, List.set_cons_succ]))
                refine seq_step rfl rfl rfl (fun K hK => ?_)
                go_simp
                refine (spec_l2Before (a := p) (b := e)).mono ?_
                rw [hnl.out]; rintro r w3 ⟨rfl, hx3⟩
                refine hK.out _ _ (Ext.trans (by assumption) hx3) (fun hS => ?_)
                try simp only [Act.put, List.setIfInBounds_toArray, List.set_cons_zero, List.set_cons_succ]
                repeat (first | (refine seq_skip rfl rfl (by assumption) ?_; simp only [Act.put, List.setIfInBounds_toArray, List.set_cons_zero, List.set_cons_succ]) | (refine seq_read (v := ?_) rfl rfl rfl (fun X hX => ?_) (by assumption) ?_; rotate_left; (focus (go_simp <;> with_reducible rfl)); simp only [Act.put, List.setIfInBounds_toArray, List.set_cons_zero, List.set_cons_succ]))
                refine seq_nil ?_
                go_wp2_with fail
                go_roundw
                case rel => exact ⟨j + 1 + 1, by omega, by go_num, all_step Hge.out hall.out (by rw [edgeOK, he.out]; dsimp only; rw [Nat.add_sub_cancel, Hp.out, hA.out]; simp [hnl.out]), hext.trans (by assumption)⟩
                case measure => simp [intOf]; omega
        · obtain rfl : k = n := by omega
          go_wp2
          go_ret
          exact ⟨ret_bool (by rw [Hv.out, all_end (by simp) hall.out, hd.out]; simp; omega), ((Ext.refl _).alloc _).trans hext⟩
    · go_enter Tryd.func46, Tryd.ntmps46
      have hd := hide (show decide (0 ≤ s.al ∧ s.al ≤ 63) = true by simp; omega)
      go_wp2_with (go_at_call 74; refine (spec_l1Alphabet _ _).mono ?_; rw [hd.out]; rintro e w' ⟨rfl, rfl⟩)
      all_goals go_ret
      all_goals exact ⟨ret_bool (by rw [Hv.out]; simp [hst]), (Ext.refl _).alloc _⟩
  · go_enter Tryd.func46, Tryd.ntmps46
    have hd := hide (show decide (0 ≤ s.al ∧ s.al ≤ 63) = false by simp; omega)
    go_wp2_with (go_at_call 74; refine (spec_l1Alphabet _ _).mono ?_; rw [hd.out]; rintro e w' ⟨rfl, rfl⟩)
    go_ret
    exact ⟨ret_bool (by rw [Hv.out]; simp; omega), (Ext.refl _).alloc _⟩
end Go.Proofs.YtbifoikcmjmdeaaDoor

namespace Go.Proofs.YtbifoikcmjmdeaaDoor
open Go Go.RowKit
set_option maxHeartbeats 1000000

/-- Two valid systems over one alphabet. -/
def sameB (s t : Sys) : Bool := sysValid s && (sysValid t && s.al == t.al)
theorem impl_sameAlphabets {lo hi lo' hi' : Nat} {A : Option Addr} {n c : Nat} {B : Option Addr} {m d : Nat} {s t : Sys} {w : World} (h : SysAt w lo hi A n s) (h' : SysAt w lo' hi' B m t) :
    Calls Tryd.prog 25 #[.agg #[.int .i64 s.al, .int .i64 s.st, .slice A n c], .agg #[.int .i64 t.al, .int .i64 t.st, .slice B m d]] w fun e w' => e = .returned (.bool (sameB s t)) ∧ Ext w w' := by
  have HS := hide (fun W (hW : Ext w W) => h.ext hW)
  have HT := hide (fun W (hW : Ext w W) => h'.ext hW)
  clear h h'
  cases h1 : sysValid s
  · have H1 := hide h1
    clear h1
    go_enter Tryd.func25, Tryd.ntmps25
    go_wp2_with (go_at_call 31; refine (impl_SystemValid (HS.out _ (((Ext.refl _).alloc _).alloc _))).mono ?_; rw [H1.out]; rintro e w1 ⟨rfl, hx⟩)
    go_ret
    exact ⟨ret_bool (by unfold sameB; rw [H1.out]; rfl), (((Ext.refl _).alloc _).alloc _).trans hx⟩
  · have H1 := hide h1
    clear h1
    cases h2 : sysValid t
    · have H2 := hide h2
      clear h2
      go_enter Tryd.func25, Tryd.ntmps25
      go_wp2_with fail
      refine (impl_SystemValid (HS.out _ (((Ext.refl _).alloc _).alloc _))).mono ?_
      rw [H1.out]
      rintro e w1 ⟨rfl, hx⟩
      obtain ⟨b1, b2⟩ := ext_blk2 hx
      have c1 := b1.cell
      have c2 := b2.cell
      go_wp2_with fail
      refine (impl_SystemValid (HT.out _ ((((Ext.refl _).alloc _).alloc _).trans hx))).mono ?_
      rw [H2.out]
      rintro e w2 ⟨rfl, hx2⟩
      go_wp2_with fail
      go_ret
      exact ⟨ret_bool (by unfold sameB; rw [H1.out, H2.out]; rfl), ((((Ext.refl _).alloc _).alloc _).trans hx).trans hx2⟩
    · have H2 := hide h2
      clear h2
      cases h3 : s.al == t.al
      all_goals
        have H3 := hide h3
        go_enter Tryd.func25, Tryd.ntmps25
        go_wp2_with fail
        refine (impl_SystemValid (HS.out _ (((Ext.refl _).alloc _).alloc _))).mono ?_
        rw [H1.out]
        rintro e w1 ⟨rfl, hx⟩
        obtain ⟨b1, b2⟩ := ext_blk2 hx
        have c1 := b1.cell
        have c2 := b2.cell
        go_wp2_with fail
        refine (impl_SystemValid (HT.out _ ((((Ext.refl _).alloc _).alloc _).trans hx))).mono ?_
        rw [H2.out]
        rintro e w2 ⟨rfl, hx2⟩
        have d1 := (b1.ext hx2).cell
        have d2 := (b2.ext hx2).cell
        go_wp2_with fail
        go_ret
        exact ⟨ret_bool (by unfold sameB; rw [H1.out, H2.out, H3.out]; first | rfl | simp_all), ((((Ext.refl _).alloc _).alloc _).trans hx).trans hx2⟩
theorem spec_l6Comparable {lo hi lo' hi' : Nat} {A : Option Addr} {n c : Nat} {B : Option Addr} {m d : Nat} {s t : Sys} {w : World} (h : SysAt w lo hi A n s) (h' : SysAt w lo' hi' B m t) :
    Calls Tryd.prog 28 #[.agg #[.int .i64 s.al, .int .i64 s.st, .slice A n c], .agg #[.int .i64 t.al, .int .i64 t.st, .slice B m d]] w fun e w' => e = .returned (.bool (sameB s t)) ∧ Ext w w' := by
  have HS := hide (fun W (hW : Ext w W) => h.ext hW)
  have HT := hide (fun W (hW : Ext w W) => h'.ext hW)
  clear h h'
  cases h1 : sysValid s
  · have H1 := hide h1
    clear h1
    go_enter Tryd.func28, Tryd.ntmps28
    go_wp2_with (go_at_call 46; refine (spec_SystemValid (HS.out _ (((Ext.refl _).alloc _).alloc _))).mono ?_; rw [H1.out]; rintro e w1 ⟨rfl, hx⟩)
    go_ret
    exact ⟨ret_bool (by unfold sameB; rw [H1.out]; rfl), (((Ext.refl _).alloc _).alloc _).trans hx⟩
  · have H1 := hide h1
    clear h1
    cases h2 : sysValid t
    · have H2 := hide h2
      clear h2
      go_enter Tryd.func28, Tryd.ntmps28
      go_wp2_with fail
      refine (spec_SystemValid (HS.out _ (((Ext.refl _).alloc _).alloc _))).mono ?_
      rw [H1.out]
      rintro e w1 ⟨rfl, hx⟩
      obtain ⟨b1, b2⟩ := ext_blk2 hx
      have c1 := b1.cell
      have c2 := b2.cell
      go_wp2_with fail
      refine (spec_SystemValid (HT.out _ ((((Ext.refl _).alloc _).alloc _).trans hx))).mono ?_
      rw [H2.out]
      rintro e w2 ⟨rfl, hx2⟩
      go_wp2_with fail
      go_ret
      exact ⟨ret_bool (by unfold sameB; rw [H1.out, H2.out]; rfl), ((((Ext.refl _).alloc _).alloc _).trans hx).trans hx2⟩
    · have H2 := hide h2
      clear h2
      cases h3 : s.al == t.al
      all_goals
        have H3 := hide h3
        go_enter Tryd.func28, Tryd.ntmps28
        go_wp2_with fail
        refine (spec_SystemValid (HS.out _ (((Ext.refl _).alloc _).alloc _))).mono ?_
        rw [H1.out]
        rintro e w1 ⟨rfl, hx⟩
        obtain ⟨b1, b2⟩ := ext_blk2 hx
        have c1 := b1.cell
        have c2 := b2.cell
        go_wp2_with fail
        refine (spec_SystemValid (HT.out _ ((((Ext.refl _).alloc _).alloc _).trans hx))).mono ?_
        rw [H2.out]
        rintro e w2 ⟨rfl, hx2⟩
        have d1 := (b1.ext hx2).cell
        have d2 := (b2.ext hx2).cell
        go_wp2_with fail
        go_ret
        exact ⟨ret_bool (by unfold sameB; rw [H1.out, H2.out, H3.out]; first | rfl | simp_all), ((((Ext.refl _).alloc _).alloc _).trans hx).trans hx2⟩
end Go.Proofs.YtbifoikcmjmdeaaDoor

namespace Go.Proofs.YtbifoikcmjmdeaaDoor
open Go Go.RowKit
set_option maxHeartbeats 400000

/-- The greatest relation. -/
noncomputable def gfp (both : Bool) (s t : Sys) : List Nat := Classical.epsilon (Gfp both s.edges t.edges s.st.toNat t.st.toNat)
theorem gfp_eq {both : Bool} {s t : Sys} {p q : Nat} {R : List Nat} (hp : s.st = p) (hq : t.st = q) (h : Gfp both s.edges t.edges p q R) : R = gfp both s t := by
  have e1 : s.st.toNat = p := by rw [hp]; rfl
  have e2 : t.st.toNat = q := by rw [hq]; rfl
  have h' : Gfp both s.edges t.edges s.st.toNat t.st.toNat R := by rw [e1, e2]; exact h
  exact h'.unique (Classical.epsilon_spec ⟨R, h'⟩)
theorem exists_bits (n : Nat) (P : Nat → Prop) : ∃ a, a < 2 ^ n ∧ ∀ j, a.testBit j = true ↔ j < n ∧ P j := by
  induction n with
  | zero => exact ⟨0, by simp, fun j => by simp⟩
  | succ n ih =>
    obtain ⟨a, ha, hj⟩ := ih
    by_cases hp : P n
    · refine ⟨2 ^ n * 1 + a, by rw [Nat.pow_succ]; omega, fun j => ?_⟩
      rw [Nat.testBit_two_pow_mul_add _ ha]
      by_cases h : j < n
      · rw [if_pos h, hj]
        exact ⟨fun x => ⟨by omega, x.2⟩, fun x => ⟨h, x.2⟩⟩
      · rw [if_neg h]
        by_cases e : j = n
        · subst e; simp [hp]
        · constructor
          · intro x
            obtain ⟨d, hd⟩ : ∃ d, j - n = d + 1 := ⟨j - n - 1, by omega⟩
            have h1 : (1 : Nat).testBit (d + 1) = false := by rw [Nat.testBit_succ]; exact Nat.zero_testBit d
            rw [hd, h1] at x
            cases x
          · intro x; omega
    · refine ⟨a, by rw [Nat.pow_succ]; omega, fun j => ?_⟩
      rw [hj]
      constructor
      · intro x; exact ⟨by omega, x.2⟩
      · rintro ⟨h1, h2⟩
        refine ⟨?_, h2⟩
        rcases Nat.lt_or_ge j n with h | h
        · exact h
        · obtain rfl : j = n := by omega
          exact absurd h2 hp
theorem gfp_exists (both : Bool) (es es' : List Edg) (m n : Nat) : ∃ R, Gfp both es es' m n R := by
  have hx : ∀ i, ∃ a, a < 2 ^ n ∧ ∀ j, a.testBit j = true ↔ j < n ∧ ∃ X, Post both es es' m n X ∧ X i j := fun i => exists_bits n _
  obtain ⟨f, hf⟩ : ∃ f : Nat → Nat, ∀ i, f i < 2 ^ n ∧ ∀ j, (f i).testBit j = true ↔ j < n ∧ ∃ X, Post both es es' m n X ∧ X i j := ⟨fun i => Classical.choose (hx i), fun i => Classical.choose_spec (hx i)⟩
  have hr : ∀ i j, rel ((List.range m).map f) i j ↔ i < m ∧ j < n ∧ ∃ X, Post both es es' m n X ∧ X i j := by
    intro i j
    unfold rel
    rw [List.length_map, List.length_range]
    constructor
    · rintro ⟨h1, h2⟩
      rw [List.getD_eq_getElem?_getD, List.getElem?_map, List.getElem?_range h1] at h2
      exact ⟨h1, ((hf i).2 j).1 h2⟩
    · rintro ⟨h1, h2⟩
      refine ⟨h1, ?_⟩
      rw [List.getD_eq_getElem?_getD, List.getElem?_map, List.getElem?_range h1]
      exact ((hf i).2 j).2 h2
  refine ⟨(List.range m).map f, ⟨by simp, fun r hr => ?_, fun X hX i j hx => (hr i j).2 ⟨(hX i j hx).1, (hX i j hx).2.1, X, hX, hx⟩⟩, fun i j h => ?_⟩
  · obtain ⟨i, _, rfl⟩ := List.mem_map.1 hr
    exact (hf i).1
  · obtain ⟨h1, h2, X, hX, hx⟩ := (hr i j).1 h
    exact (hX i j hx).2.2.mono fun a b hab => (hr a b).2 ⟨(hX a b hab).1, (hX a b hab).2.1, X, hX, hab⟩
theorem gfp_spec (both : Bool) (s t : Sys) : Gfp both s.edges t.edges s.st.toNat t.st.toNat (gfp both s t) := Classical.epsilon_spec (gfp_exists both s.edges t.edges s.st.toNat t.st.toNat)
theorem valid_few {s : Sys} (h : sysValid s = true) : ∃ p : Nat, s.st = p ∧ 1 ≤ p ∧ p ≤ 16 ∧ Few p s.edges := by
  simp only [sysValid, Bool.and_eq_true, decide_eq_true_eq, List.all_eq_true, List.mem_range] at h
  obtain ⟨_, ⟨h1, h2⟩, h3⟩ := h
  refine ⟨s.st.toNat, by omega, by omega, by omega, fun e he => ?_⟩
  obtain ⟨k, hk⟩ := List.getElem?_of_mem he
  have := h3 k (List.getElem?_eq_some_iff.1 hk).1
  rw [edgeOK, hk] at this
  simp only [Bool.and_eq_true, edgB, decide_eq_true_eq, hasB] at this
  omega
theorem same_valid {s t : Sys} (h : sameB s t = true) : sysValid s = true ∧ sysValid t = true ∧ s.al = t.al := by
  simp only [sameB, Bool.and_eq_true, beq_iff_eq] at h
  exact ⟨h.1, h.2.1, h.2.2⟩
theorem gfp_small {both : Bool} {s t : Sys} {p q : Nat} {R : List Nat} (hq : q ≤ 16) (h : Gfp both s.edges t.edges p q R) : ∀ r ∈ R, Sm r := fun r hr => by
  refine Sm.of_lt (Nat.lt_of_lt_of_le (h.small r hr) ?_)
  rw [show (4294967296 : Nat) = 2 ^ 32 from rfl]
  exact Nat.pow_le_pow_right (by omega) (by omega)
/-- The first states are related. -/
noncomputable def simB (both : Bool) (s t : Sys) : Bool := sameB s t && ((gfp both s t).getD 0 0).testBit 0
/-- The relation, or none. -/
noncomputable def simR (s t : Sys) : List Nat := if sameB s t then gfp false s t else []
theorem simR_length (s t : Sys) : (simR s t).length ≤ 16 := by
  unfold simR
  split
  · rename_i h
    obtain ⟨p, hp, _, hp2, _⟩ := valid_few (same_valid h).1
    rw [(gfp_spec false s t).len, hp]
    exact hp2
  · simp
/-- Numbers in new memory. -/
def OwnN (w : World) (base : Nat) (A : Option Addr) (n c : Nat) (R : List Nat) : Prop := n = R.length ∧ w.ownsRow base 3 1 (.slice A n c) n (nats R)
theorem OwnN.ext {w w' : World} {base : Nat} {A : Option Addr} {n c : Nat} {R : List Nat} (h : OwnN w base A n c R) (hb : Ext w w') : OwnN w' base A n c R := ⟨h.1, own_ext h.2 hb⟩
theorem OwnN.less {w : World} {base base' : Nat} {A : Option Addr} {n c : Nat} {R : List Nat} (h : OwnN w base A n c R) (hb : base' ≤ base) : OwnN w base' A n c R := ⟨h.1, own_less h.2 hb⟩
def RetN (w : World) (R : List Nat) (e : Ending) (w' : World) : Prop := ∃ A n c, e = .returned (.slice A n c) ∧ OwnN w' w.heap.size A n c R ∧ Ext w w'

theorem impl_Bisimilar {lo hi lo' hi' : Nat} {A : Option Addr} {n c : Nat} {B : Option Addr} {m d : Nat} {s t : Sys} {w : World} (h : SysAt w lo hi A n s) (h' : SysAt w lo' hi' B m t) (hT : Tab w) :
    Calls Tryd.prog 15 #[.agg #[.int .i64 s.al, .int .i64 s.st, .slice A n c], .agg #[.int .i64 t.al, .int .i64 t.st, .slice B m d]] w fun e w' => e = .returned (.bool (simB true s t)) ∧ Ext w w' := by
  have HS := hide (fun W (hW : Ext w W) => h.ext hW)
  have HT := hide (fun W (hW : Ext w W) => h'.ext hW)
  clear h h'
  cases h1 : sameB s t
  · have H1 := hide h1
    clear h1
    go_enter Tryd.func15, Tryd.ntmps15
    go_wp2_with (go_at_call 25; refine (impl_sameAlphabets (HS.out _ (((Ext.refl _).alloc _).alloc _)) (HT.out _ (((Ext.refl _).alloc _).alloc _))).mono ?_; rw [H1.out]; rintro e w1 ⟨rfl, hx⟩)
    go_ret
    exact ⟨ret_bool (by unfold simB; rw [H1.out]; rfl), (((Ext.refl _).alloc _).alloc _).trans hx⟩
  · obtain ⟨v1, v2, -⟩ := same_valid h1
    obtain ⟨p, hp, hp1, hp2, hf⟩ := valid_few v1
    obtain ⟨q, hq, hq1, hq2, hg⟩ := valid_few v2
    have H1 := hide h1
    have Hf := hide hf
    have Hg := hide hg
    have Hp := hide hp
    have Hq := hide hq
    clear h1 v1 v2 hf hg hp hq
    go_enter Tryd.func15, Tryd.ntmps15
    go_wp2_with fail
    refine (impl_sameAlphabets (HS.out _ (((Ext.refl _).alloc _).alloc _)) (HT.out _ (((Ext.refl _).alloc _).alloc _))).mono ?_
    rw [H1.out]
    rintro e w1 ⟨rfl, hx⟩
    obtain ⟨b1, b2⟩ := ext_blk2 hx
    have c1 := b1.cell
    have c2 := b2.cell
    have hw1 := (((Ext.refl w).alloc _).alloc _).trans hx
    go_wp2_with fail
    refine (impl_greatestRelation (both := true) (HS.out _ hw1) (HT.out _ hw1) (hT.ext hw1) Hp.out Hq.out hp1 hp2 hq2 Hf.out Hg.out).mono ?_
    rintro e w2 ⟨g, R, rfl, hown, hG, hx2⟩
    have hRl := hG.len
    obtain ⟨r, hr⟩ : ∃ r, R[0]? = some r := ⟨_, List.getElem?_eq_getElem (by omega)⟩
    have hrs := gfp_small hq2 hG r (List.mem_of_getElem? hr)
    have hc0 : w2.cell? ⟨g, 0, none⟩ = some (.int .i64 (r : Nat)) := by rw [hown.cellAt 0 (by omega)]; simp [nats, hr]
    have hres := hide (show r.testBit 0 = simB true s t by unfold simB; rw [H1.out, ← gfp_eq Hp.out Hq.out hG, List.getD_eq_getElem?_getD, hr]; rfl)
    have Hhas := hide (show Calls Tryd.prog 26 #[.int .i64 r, .int .i64 (0 : Int)] w2 fun e w' => e = .returned (.bool (simB true s t)) ∧ w2 = w' by rw [← hres.out]; exact (by have := impl_has r (0 : Int) hrs w2; have e : hasB r 0 = r.testBit 0 := (by simp [hasB]); rw [e] at this; exact this))
    clear hr hRl hres
    go_wp2_with (go_at_call 26; refine (Hhas.out).mono ?_; rintro e w3 ⟨rfl, rfl⟩)
    go_ret
    exact ⟨rfl, hw1.trans hx2⟩

theorem impl_Simulates {lo hi lo' hi' : Nat} {A : Option Addr} {n c : Nat} {B : Option Addr} {m d : Nat} {s t : Sys} {w : World} (h : SysAt w lo hi A n s) (h' : SysAt w lo' hi' B m t) (hT : Tab w) :
    Calls Tryd.prog 10 #[.agg #[.int .i64 s.al, .int .i64 s.st, .slice A n c], .agg #[.int .i64 t.al, .int .i64 t.st, .slice B m d]] w fun e w' => e = .returned (.bool (simB false s t)) ∧ Ext w w' := by
  have HS := hide (fun W (hW : Ext w W) => h.ext hW)
  have HT := hide (fun W (hW : Ext w W) => h'.ext hW)
  clear h h'
  cases h1 : sameB s t
  · have H1 := hide h1
    clear h1
    go_enter Tryd.func10, Tryd.ntmps10
    go_wp2_with (go_at_call 25; refine (impl_sameAlphabets (HS.out _ (((Ext.refl _).alloc _).alloc _)) (HT.out _ (((Ext.refl _).alloc _).alloc _))).mono ?_; rw [H1.out]; rintro e w1 ⟨rfl, hx⟩)
    go_ret
    exact ⟨ret_bool (by unfold simB; rw [H1.out]; rfl), (((Ext.refl _).alloc _).alloc _).trans hx⟩
  · obtain ⟨v1, v2, -⟩ := same_valid h1
    obtain ⟨p, hp, hp1, hp2, hf⟩ := valid_few v1
    obtain ⟨q, hq, hq1, hq2, hg⟩ := valid_few v2
    have H1 := hide h1
    have Hf := hide hf
    have Hg := hide hg
    have Hp := hide hp
    have Hq := hide hq
    clear h1 v1 v2 hf hg hp hq
    go_enter Tryd.func10, Tryd.ntmps10
    go_wp2_with fail
    refine (impl_sameAlphabets (HS.out _ (((Ext.refl _).alloc _).alloc _)) (HT.out _ (((Ext.refl _).alloc _).alloc _))).mono ?_
    rw [H1.out]
    rintro e w1 ⟨rfl, hx⟩
    obtain ⟨b1, b2⟩ := ext_blk2 hx
    have c1 := b1.cell
    have c2 := b2.cell
    have hw1 := (((Ext.refl w).alloc _).alloc _).trans hx
    go_wp2_with fail
    refine (impl_greatestRelation (both := false) (HS.out _ hw1) (HT.out _ hw1) (hT.ext hw1) Hp.out Hq.out hp1 hp2 hq2 Hf.out Hg.out).mono ?_
    rintro e w2 ⟨g, R, rfl, hown, hG, hx2⟩
    have hRl := hG.len
    obtain ⟨r, hr⟩ : ∃ r, R[0]? = some r := ⟨_, List.getElem?_eq_getElem (by omega)⟩
    have hrs := gfp_small hq2 hG r (List.mem_of_getElem? hr)
    have hc0 : w2.cell? ⟨g, 0, none⟩ = some (.int .i64 (r : Nat)) := by rw [hown.cellAt 0 (by omega)]; simp [nats, hr]
    have hres := hide (show r.testBit 0 = simB false s t by unfold simB; rw [H1.out, ← gfp_eq Hp.out Hq.out hG, List.getD_eq_getElem?_getD, hr]; rfl)
    have Hhas := hide (show Calls Tryd.prog 26 #[.int .i64 r, .int .i64 (0 : Int)] w2 fun e w' => e = .returned (.bool (simB false s t)) ∧ w2 = w' by rw [← hres.out]; exact (by have := impl_has r (0 : Int) hrs w2; have e : hasB r 0 = r.testBit 0 := (by simp [hasB]); rw [e] at this; exact this))
    clear hr hRl hres
    go_wp2_with (go_at_call 26; refine (Hhas.out).mono ?_; rintro e w3 ⟨rfl, rfl⟩)
    go_ret
    exact ⟨rfl, hw1.trans hx2⟩

theorem spec_Bisimilar {lo hi lo' hi' : Nat} {A : Option Addr} {n c : Nat} {B : Option Addr} {m d : Nat} {s t : Sys} {w : World} (h : SysAt w lo hi A n s) (h' : SysAt w lo' hi' B m t) :
    Calls Tryd.prog 16 #[.agg #[.int .i64 s.al, .int .i64 s.st, .slice A n c], .agg #[.int .i64 t.al, .int .i64 t.st, .slice B m d]] w fun e w' => e = .returned (.bool (simB true s t)) ∧ Ext w w' := by
  have HS := hide (fun W (hW : Ext w W) => h.ext hW)
  have HT := hide (fun W (hW : Ext w W) => h'.ext hW)
  clear h h'
  cases h1 : sameB s t
  · have H1 := hide h1
    clear h1
    go_enter Tryd.func16, Tryd.ntmps16
    go_wp2_with (go_at_call 28; refine (spec_l6Comparable (HS.out _ (((Ext.refl _).alloc _).alloc _)) (HT.out _ (((Ext.refl _).alloc _).alloc _))).mono ?_; rw [H1.out]; rintro e w1 ⟨rfl, hx⟩)
    go_ret
    exact ⟨ret_bool (by unfold simB; rw [H1.out]; rfl), (((Ext.refl _).alloc _).alloc _).trans hx⟩
  · obtain ⟨v1, v2, -⟩ := same_valid h1
    obtain ⟨p, hp, hp1, hp2, hf⟩ := valid_few v1
    obtain ⟨q, hq, hq1, hq2, hg⟩ := valid_few v2
    have H1 := hide h1
    have Hf := hide hf
    have Hg := hide hg
    have Hp := hide hp
    have Hq := hide hq
    clear h1 v1 v2 hf hg hp hq
    go_enter Tryd.func16, Tryd.ntmps16
    go_wp2_with fail
    refine (spec_l6Comparable (HS.out _ (((Ext.refl _).alloc _).alloc _)) (HT.out _ (((Ext.refl _).alloc _).alloc _))).mono ?_
    rw [H1.out]
    rintro e w1 ⟨rfl, hx⟩
    obtain ⟨b1, b2⟩ := ext_blk2 hx
    have c1 := b1.cell
    have c2 := b2.cell
    have hw1 := (((Ext.refl w).alloc _).alloc _).trans hx
    go_wp2_with fail
    refine (spec_l15Relate (both := true) (HS.out _ hw1) (HT.out _ hw1) Hp.out Hq.out hp1 hp2 hq2 Hf.out Hg.out).mono ?_
    rintro e w2 ⟨g, c0, R, rfl, hown, hG, hx2⟩
    have hRl := hG.len
    obtain ⟨r, hr⟩ : ∃ r, R[0]? = some r := ⟨_, List.getElem?_eq_getElem (by omega)⟩
    have hrs := gfp_small hq2 hG r (List.mem_of_getElem? hr)
    have hc0 : w2.cell? ⟨g, 0, none⟩ = some (.int .i64 (r : Nat)) := by rw [hown.cellAt 0 (by omega)]; simp [nats, hr]
    have hres := hide (show r.testBit 0 = simB true s t by unfold simB; rw [H1.out, ← gfp_eq Hp.out Hq.out hG, List.getD_eq_getElem?_getD, hr]; rfl)
    have Hhas := hide (show Calls Tryd.prog 29 #[.int .i64 r, .int .i64 (0 : Int)] w2 fun e w' => e = .returned (.bool (simB true s t)) ∧ w2 = w' by rw [← hres.out]; exact (spec_l1Has r 0 hrs w2 (by omega)))
    clear hr hRl hres
    go_wp2_with (go_at_call 29; refine (Hhas.out).mono ?_; rintro e w3 ⟨rfl, rfl⟩)
    go_ret
    exact ⟨rfl, hw1.trans hx2⟩

theorem spec_Simulates {lo hi lo' hi' : Nat} {A : Option Addr} {n c : Nat} {B : Option Addr} {m d : Nat} {s t : Sys} {w : World} (h : SysAt w lo hi A n s) (h' : SysAt w lo' hi' B m t) :
    Calls Tryd.prog 11 #[.agg #[.int .i64 s.al, .int .i64 s.st, .slice A n c], .agg #[.int .i64 t.al, .int .i64 t.st, .slice B m d]] w fun e w' => e = .returned (.bool (simB false s t)) ∧ Ext w w' := by
  have HS := hide (fun W (hW : Ext w W) => h.ext hW)
  have HT := hide (fun W (hW : Ext w W) => h'.ext hW)
  clear h h'
  cases h1 : sameB s t
  · have H1 := hide h1
    clear h1
    go_enter Tryd.func11, Tryd.ntmps11
    go_wp2_with (go_at_call 28; refine (spec_l6Comparable (HS.out _ (((Ext.refl _).alloc _).alloc _)) (HT.out _ (((Ext.refl _).alloc _).alloc _))).mono ?_; rw [H1.out]; rintro e w1 ⟨rfl, hx⟩)
    go_ret
    exact ⟨ret_bool (by unfold simB; rw [H1.out]; rfl), (((Ext.refl _).alloc _).alloc _).trans hx⟩
  · obtain ⟨v1, v2, -⟩ := same_valid h1
    obtain ⟨p, hp, hp1, hp2, hf⟩ := valid_few v1
    obtain ⟨q, hq, hq1, hq2, hg⟩ := valid_few v2
    have H1 := hide h1
    have Hf := hide hf
    have Hg := hide hg
    have Hp := hide hp
    have Hq := hide hq
    clear h1 v1 v2 hf hg hp hq
    go_enter Tryd.func11, Tryd.ntmps11
    go_wp2_with fail
    refine (spec_l6Comparable (HS.out _ (((Ext.refl _).alloc _).alloc _)) (HT.out _ (((Ext.refl _).alloc _).alloc _))).mono ?_
    rw [H1.out]
    rintro e w1 ⟨rfl, hx⟩
    obtain ⟨b1, b2⟩ := ext_blk2 hx
    have c1 := b1.cell
    have c2 := b2.cell
    have hw1 := (((Ext.refl w).alloc _).alloc _).trans hx
    go_wp2_with fail
    refine (spec_l15Relate (both := false) (HS.out _ hw1) (HT.out _ hw1) Hp.out Hq.out hp1 hp2 hq2 Hf.out Hg.out).mono ?_
    rintro e w2 ⟨g, c0, R, rfl, hown, hG, hx2⟩
    have hRl := hG.len
    obtain ⟨r, hr⟩ : ∃ r, R[0]? = some r := ⟨_, List.getElem?_eq_getElem (by omega)⟩
    have hrs := gfp_small hq2 hG r (List.mem_of_getElem? hr)
    have hc0 : w2.cell? ⟨g, 0, none⟩ = some (.int .i64 (r : Nat)) := by rw [hown.cellAt 0 (by omega)]; simp [nats, hr]
    have hres := hide (show r.testBit 0 = simB false s t by unfold simB; rw [H1.out, ← gfp_eq Hp.out Hq.out hG, List.getD_eq_getElem?_getD, hr]; rfl)
    have Hhas := hide (show Calls Tryd.prog 29 #[.int .i64 r, .int .i64 (0 : Int)] w2 fun e w' => e = .returned (.bool (simB false s t)) ∧ w2 = w' by rw [← hres.out]; exact (spec_l1Has r 0 hrs w2 (by omega)))
    clear hr hRl hres
    go_wp2_with (go_at_call 29; refine (Hhas.out).mono ?_; rintro e w3 ⟨rfl, rfl⟩)
    go_ret
    exact ⟨rfl, hw1.trans hx2⟩

theorem impl_SimilarStates {lo hi lo' hi' : Nat} {A : Option Addr} {n c : Nat} {B : Option Addr} {m d : Nat} {s t : Sys} {w : World} (h : SysAt w lo hi A n s) (h' : SysAt w lo' hi' B m t) (hT : Tab w) :
    Calls Tryd.prog 20 #[.agg #[.int .i64 s.al, .int .i64 s.st, .slice A n c], .agg #[.int .i64 t.al, .int .i64 t.st, .slice B m d]] w (RetN w (simR s t)) := by
  have HS := hide (fun W (hW : Ext w W) => h.ext hW)
  have HT := hide (fun W (hW : Ext w W) => h'.ext hW)
  clear h h'
  cases h1 : sameB s t
  · have H1 := hide h1
    have hR := hide (show simR s t = [] by unfold simR; rw [h1]; rfl)
    clear h1
    go_enter Tryd.func20, Tryd.ntmps20
    go_wp2_with (go_at_call 25; refine (impl_sameAlphabets (HS.out _ (((Ext.refl _).alloc _).alloc _)) (HT.out _ (((Ext.refl _).alloc _).alloc _))).mono ?_; rw [H1.out]; rintro e w1 ⟨rfl, hx⟩)
    go_ret
    exact ⟨_, _, _, rfl, by rw [hR.out]; exact ⟨rfl, World.ownsRow_nil _ _ _ _⟩, (((Ext.refl _).alloc _).alloc _).trans hx⟩
  · obtain ⟨v1, v2, -⟩ := same_valid h1
    obtain ⟨p, hp, hp1, hp2, hf⟩ := valid_few v1
    obtain ⟨q, hq, hq1, hq2, hg⟩ := valid_few v2
    have hR := hide (show simR s t = gfp false s t by unfold simR; rw [h1]; rfl)
    have H1 := hide h1
    have Hf := hide hf
    have Hg := hide hg
    have Hp := hide hp
    have Hq := hide hq
    clear h1 v1 v2 hf hg hp hq
    go_enter Tryd.func20, Tryd.ntmps20
    go_wp2_with fail
    refine (impl_sameAlphabets (HS.out _ (((Ext.refl _).alloc _).alloc _)) (HT.out _ (((Ext.refl _).alloc _).alloc _))).mono ?_
    rw [H1.out]
    rintro e w1 ⟨rfl, hx⟩
    obtain ⟨b1, b2⟩ := ext_blk2 hx
    have c1 := b1.cell
    have c2 := b2.cell
    have hw1 := (((Ext.refl w).alloc _).alloc _).trans hx
    go_wp2_with fail
    refine (impl_greatestRelation (both := false) (HS.out _ hw1) (HT.out _ hw1) (hT.ext hw1) Hp.out Hq.out hp1 hp2 hq2 Hf.out Hg.out).mono ?_
    rintro e w2 ⟨g, R, rfl, hown, hG, hx2⟩
    have hRe := gfp_eq Hp.out Hq.out hG
    have hRl := hG.len
    have Hfin := hide (show OwnN w2 w.heap.size (some ⟨g, 0, none⟩) p p (simR s t) from ⟨by rw [hR.out, ← hRe, hRl], by rw [hR.out, ← hRe]; exact own_less hown hw1.size⟩)
    clear hRe hRl hG hR
    go_wp2_with fail
    go_ret
    exact ⟨_, _, _, rfl, Hfin.out, hw1.trans hx2⟩

end Go.Proofs.YtbifoikcmjmdeaaDoor
