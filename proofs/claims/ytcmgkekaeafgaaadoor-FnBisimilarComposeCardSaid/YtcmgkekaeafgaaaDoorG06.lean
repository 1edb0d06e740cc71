/- spec.l15Follows, walked. | Plain: spec.l15Follows asks the first half of 'the edges are answered'. | Plain: what spec.l15Backs asks is the other half of 'the edges are answered'. | spec.l15Backs, walked. | impl.movesOf, walked. | impl.greatestRelation, walked. | spec.l15Relate, walked. | Bisimilar, Simulates and SimilarStates of the program and of the reference, walked: both compute the greatest relation. -/
import Derived.Test.YtcmgkekaeafgaaaDoorG03
import Derived.BigQuiet
import Derived.Deep.RegionHeld3
import Derived.Test.YtcmgkekaeafgaaaDoorG01
import Derived.Test.YtcmgkekaeafgaaaDoorG02
import Derived.StillTailTactics
import Derived.Test.YtcmgkekaeafgaaaDoorG05
namespace Go.Proofs.YtcmgkekaeafgaaaDoor
open Go Go.RowKit
set_option maxHeartbeats 2000000

/-- One edge of the first system is no edge from i, or is answered by one from j. -/
def folE (es' : List Edg) (R : List Nat) (i j : Nat) (e : Edg) : Bool := !(e.fr == (i : Int) && (stepB es' (2 ^ j) e.le &&& R.getD e.to.toNat 0 == 0))
theorem spec_l15Follows {lo hi lo' hi' lo2 hi2 : Nat} {A : Option Addr} {n c : Nat} {B : Option Addr} {m d : Nat} {C : Option Addr} {r f : Nat} {s t : Sys} {R : List Nat} {p q i j : Nat} {w : World} (h : SysAt w lo hi A n s) (h' : SysAt w lo' hi' B m t) (hR : Reads w lo2 hi2 1 C r (nats R)) (hs : ∀ r ∈ R, Sm r)
    (hf : Few p s.edges) (hg : Few q t.edges) (_hp : p ≤ 16) (hq : q ≤ 16) (hj : j < 32) (hl : p ≤ R.length) :
    Calls Tryd.prog 52 #[.agg #[.int .i64 s.al, .int .i64 s.st, .slice A n c], .agg #[.int .i64 t.al, .int .i64 t.st, .slice B m d], .slice C r f, .int .i64 i, .int .i64 j] w fun e w' => e = .returned (.bool (s.edges.all (folE t.edges R i j))) ∧ Ext w w' := by
  have hn := h.2.len
  have hL := hide h.1
  have HR := hide (fun W (hW : Ext w W) => h.2.ext hW)
  have HT := hide (fun W (hW : Ext w W) => h'.ext hW)
  have HC := hide (fun W (hW : Ext w W) => hR.ext hW)
  have hrl := hide (show R.length = r by have := hR.length; rw [nats_length] at this; omega)
  have Hf := hide hf
  have Hg := hide hg
  have Hs := hide hs
  have hr' := hR.len
  clear hf hg hs
  go_enter Tryd.func52, Tryd.ntmps52
  go_wp2
  go_loopw [11] (fun i' wr => ∃ k : Nat, k ≤ n ∧ i' = .int .i64 k ∧ Hid ((s.edges.take k).all (folE t.edges R i j) = true) ∧ Ext ((w.alloc (.cells #[.int .i64 s.al, .int .i64 s.st, .slice A n c] 25)).alloc (.cells #[.int .i64 t.al, .int .i64 t.st, .slice B m d] 25)) wr) (fun i' _ => n - (intOf i').toNat)
  case atStart => exact ⟨0, Nat.zero_le _, rfl, rfl, Ext.refl _⟩
  case round =>
    obtain ⟨k, hk, rfl, hall, hexb⟩ := hrel
    have hext := (((Ext.refl w).alloc _).alloc _).trans hexb
    obtain ⟨bk1, bk2⟩ := ext_blk2 hexb
    have cb1 := bk1.cell
    by_cases hlt : k < n
    · obtain ⟨b, o, x, rfl, _, _, hx, c0, c1, c2⟩ := (HR.out wr hext).edge hlt
      obtain ⟨⟨f0, f1⟩, ⟨g0, g1⟩, ⟨t0, t1⟩⟩ := Hf.out x (List.mem_of_getElem? hx.out)
      have Htk := hide (show s.edges.take (k + 1) = s.edges.take k ++ [x] by rw [List.take_add_one, hx.out]; rfl)
      obtain ⟨g, hge⟩ : ∃ g : Nat, x.fr = g := ⟨x.fr.toNat, by omega⟩
      obtain ⟨u, hue⟩ : ∃ u : Nat, x.to = u := ⟨x.to.toNat, by omega⟩
      rw [hge] at c0 f0 f1
      rw [hue] at c2 t0 t1
      obtain ⟨ad, v, hCe, _, _, hv, hvc⟩ := (HC.out wr hext).nat (k := u) (by have := hrl.out; omega)
      have hvs := Hs.out v (List.mem_of_getElem? hv.out)
      have hE := hide (show folE t.edges R i j x = !((g : Int) == (i : Int) && (stepB t.edges (2 ^ j) x.le &&& v == 0)) by unfold folE; rw [hge, hue, List.getD_eq_getElem?_getD, Int.toNat_natCast, hv.out]; rfl)
      have hur : u < r := by have := hrl.out; omega
      have hsm := hide (show Sm (stepB t.edges (2 ^ j) x.le) from Nat.lt_of_lt_of_le (stepB_lt Hg.out _ _) (by rw [show (4294967296 : Nat) = 2 ^ 32 from rfl]; exact Nat.pow_le_pow_right (by omega) (by omega)))
      have hand := hide (bits_and hsm.out hvs)
      by_cases hgi : g = i
      · have hgi' : ((g : Int) == (i : Int)) = true := by simp [hgi]
        subst hCe
        have hvc2 : ∀ W, Ext wr W → W.cell? (ad.add u) = some (.int .i64 (v : Nat)) := fun W hW => hW.cell_some hvc
        have bk2' : ∀ W, Ext wr W → ∀ a, W.cell? ⟨w.heap.size + 1, a, none⟩ = #[Value.int .i64 t.al, .int .i64 t.st, .slice B m d][a]? := fun W hW => (bk2.ext hW).cell
        have Hgi := hide hgi
        clear hgi
        by_cases hz : stepB t.edges (2 ^ j) x.le &&& v = 0
        all_goals
          have hz' := hide hz
          clear hz
        · have hzz : (bits .and .i64 (stepB t.edges (2 ^ j) x.le : Nat) (v : Nat) == 0) = true := by rw [hand.out, hz'.out]; rfl
          go_wp2_with fail
          have hxq := (Ext.refl wr).alloc (.cells #[.int .i64 g, .int .i64 x.le, .int .i64 u] 65)
          have hbq := Blk.new wr 65 #[.int .i64 g, .int .i64 x.le, .int .i64 u]
          generalize wr.alloc (.cells #[.int .i64 g, .int .i64 x.le, .int .i64 u] 65) = wq at *
          have hbq' : ∀ W, Ext wq W → ∀ a, W.cell? ⟨wr.heap.size, a, none⟩ = #[Value.int .i64 g, .int .i64 x.le, .int .i64 u][a]? := fun W hW => (hbq.ext hW).cell
          have hvc3 : ∀ W, Ext wq W → W.cell? (ad.add u) = some (.int .i64 (v : Nat)) := fun W hW => hvc2 W (hxq.trans hW)
          have bk3 : ∀ W, Ext wq W → ∀ a, W.cell? ⟨w.heap.size + 1, a, none⟩ = #[Value.int .i64 t.al, .int .i64 t.st, .slice B m d][a]? := fun W hW => bk2' W (hxq.trans hW)
          have HT2 := hide (fun W (hW : Ext wq W) => HT.out W ((hext.trans hxq).trans hW))
          have hqq := Ext.refl wq
          clear hvc2 bk2' bk2 bk1 cb1 c0 c1 c2
          go_region_held3 (fun W => Ext wq W) (first | assumption | (refine Ext.drew ?_; assumption) | (refine Ext.trans ?_ (by assumption); assumption) | (refine Ext.trans ?_ (by assumption); refine Ext.drew ?_; assumption)) (first
            | (go_at_call 51; with_reducible refine (spec_l1Bit j hj _).mono ?_; rintro e w5 ⟨rfl, rfl⟩)
            | (go_at_call 73; refine (spec_l2Step (HT2.out _ ?_) Hg.out hq (Sm.bit hj)).mono ?_; (first | assumption | (refine Ext.drew ?_; assumption)); rintro e w6 ⟨rfl, hx6⟩))
          go_wp2_with fail
          go_ret
          refine ⟨ret_bool ?_, (hext.trans hxq).trans (by assumption)⟩
          have hF : folE t.edges R i j x = false := by rw [hE.out, hgi', hz'.out]; rfl
          refine (Bool.eq_false_iff.2 fun hc => ?_).symm
          have := List.all_eq_true.1 hc x (List.mem_of_getElem? hx.out)
          rw [hF] at this
          cases this
        · have hzz : (bits .and .i64 (stepB t.edges (2 ^ j) x.le : Nat) (v : Nat) == 0) = false := by rw [hand.out]; have := hz'.out; simp; omega
          go_wp2_with fail
          have hxq := (Ext.refl wr).alloc (.cells #[.int .i64 g, .int .i64 x.le, .int .i64 u] 65)
          have hbq := Blk.new wr 65 #[.int .i64 g, .int .i64 x.le, .int .i64 u]
          generalize wr.alloc (.cells #[.int .i64 g, .int .i64 x.le, .int .i64 u] 65) = wq at *
          have hbq' : ∀ W, Ext wq W → ∀ a, W.cell? ⟨wr.heap.size, a, none⟩ = #[Value.int .i64 g, .int .i64 x.le, .int .i64 u][a]? := fun W hW => (hbq.ext hW).cell
          have hvc3 : ∀ W, Ext wq W → W.cell? (ad.add u) = some (.int .i64 (v : Nat)) := fun W hW => hvc2 W (hxq.trans hW)
          have bk3 : ∀ W, Ext wq W → ∀ a, W.cell? ⟨w.heap.size + 1, a, none⟩ = #[Value.int .i64 t.al, .int .i64 t.st, .slice B m d][a]? := fun W hW => bk2' W (hxq.trans hW)
          have HT2 := hide (fun W (hW : Ext wq W) => HT.out W ((hext.trans hxq).trans hW))
          have hqq := Ext.refl wq
          clear hvc2 bk2' bk2 bk1 cb1 c0 c1 c2
          go_region_held3 (fun W => Ext wq W) (first | assumption | (refine Ext.drew ?_; assumption) | (refine Ext.trans ?_ (by assumption); assumption) | (refine Ext.trans ?_ (by assumption); refine Ext.drew ?_; assumption)) (first
            | (go_at_call 51; with_reducible refine (spec_l1Bit j hj _).mono ?_; rintro e w5 ⟨rfl, rfl⟩)
            | (go_at_call 73; refine (spec_l2Step (HT2.out _ ?_) Hg.out hq (Sm.bit hj)).mono ?_; (first | assumption | (refine Ext.drew ?_; assumption)); rintro e w6 ⟨rfl, hx6⟩))
          go_wp2_with fail
          go_roundw
          case rel => exact ⟨k + 1, by omega, by go_num, by
            have hF : folE t.edges R i j x = true := by
              have hz3 : (stepB t.edges (2 ^ j) x.le &&& v == 0) = false := by have := hz'.out; simpa using this
              rw [hE.out, hgi', hz3]; rfl
            unfold Hid; rw [Htk.out, List.all_append, hall.out]; simp [hF], (hexb.trans hxq).trans (by assumption)⟩
          case measure => simp [intOf]; omega
      · have hgi' : ((g : Int) == (i : Int)) = false := by simp; omega
        have hE2 := hide (show folE t.edges R i j x = true by rw [hE.out, hgi']; rfl)
        subst hCe
        go_wp2_with fail
        have hxq := (Ext.refl wr).alloc (.cells #[.int .i64 g, .int .i64 x.le, .int .i64 u] 65)
        have hbq := (Blk.new wr 65 #[.int .i64 g, .int .i64 x.le, .int .i64 u]).cell
        generalize wr.alloc (.cells #[.int .i64 g, .int .i64 x.le, .int .i64 u] 65) = wq at *
        go_quiet (fail)
        go_wp2_with fail
        go_roundw
        case rel => exact ⟨k + 1, by omega, by go_num, by unfold Hid; rw [Htk.out, List.all_append, hall.out]; simp [hE2.out], (hexb.trans hxq).drewN _⟩
        case measure => simp [intOf]; omega
    · obtain rfl : n = k := by omega
      go_wp2
      go_ret
      have := hall.out
      rw [hL.out, List.take_length] at this
      exact ⟨ret_bool this.symm, hext⟩
end Go.Proofs.YtcmgkekaeafgaaaDoor

namespace Go.Proofs.YtcmgkekaeafgaaaDoor
open Go Go.RowKit

theorem fol_iff {p q : Nat} {es es' : List Edg} {R : List Nat} {i j : Nat} (h : Few p es) (h' : Few q es') : es.all (folE es' R i j) = true ↔ ∀ l k, E es i l k → ∃ k', E es' j l k' ∧ rel R k k' := by
  rw [List.all_eq_true]
  constructor
  · rintro hA l k ⟨e, he, h1, h2, h3⟩
    have := hA e he
    unfold folE at this
    rw [stepB_one h', h1, h2, show e.to.toNat = k by omega] at this
    simp only [beq_self_eq_true, Bool.true_and, Bool.not_eq_true', beq_eq_false_iff_ne, ne_eq] at this
    obtain ⟨k', hk'⟩ := ne_zero_bit.1 this
    rw [Nat.testBit_and, Bool.and_eq_true] at hk'
    exact ⟨k', (E_iff h' j l k').2 hk'.1, rel_getD hk'.2⟩
  · intro hA e he
    unfold folE
    by_cases hi : e.fr = i
    · have hb := h e he
      obtain ⟨k', h1, h2⟩ := hA e.le.toNat e.to.toNat ⟨e, he, hi, by omega, by omega⟩
      have h3 := (E_iff h' j e.le.toNat k').1 h1
      rw [show ((e.le.toNat : Nat) : Int) = e.le by omega] at h3
      have : succ es' j e.le &&& R.getD e.to.toNat 0 ≠ 0 := ne_zero_bit.2 ⟨k', by rw [Nat.testBit_and, h3, h2.2]; rfl⟩
      rw [stepB_one h']
      simp only [Bool.not_eq_true', Bool.and_eq_false_iff, beq_eq_false_iff_ne, ne_eq]
      exact Or.inr this
    · have : (e.fr == (i : Int)) = false := by simpa using hi
      rw [this]; rfl
end Go.Proofs.YtcmgkekaeafgaaaDoor

namespace Go.Proofs.YtcmgkekaeafgaaaDoor
open Go Go.RowKit

/-- One edge of the second system is no edge from j, or is answered by one from i. -/
def bakE (p : Nat) (es : List Edg) (R : List Nat) (i j : Nat) (e : Edg) : Bool := !(e.fr == (j : Int)) || (List.range p).any fun n => (stepB es (2 ^ i) e.le).testBit n && (R.getD n 0).testBit e.to.toNat
theorem bak_iff {p q : Nat} {es es' : List Edg} {R : List Nat} {i j : Nat} (h : Few p es) (h' : Few q es') : es'.all (bakE p es R i j) = true ↔ ∀ l k', E es' j l k' → ∃ k, E es i l k ∧ rel R k k' := by
  rw [List.all_eq_true]
  constructor
  · rintro hA l k' ⟨e, he, h1, h2, h3⟩
    have := hA e he
    unfold bakE at this
    rw [stepB_one h, h1, h2, show e.to.toNat = k' by omega] at this
    simp only [beq_self_eq_true, Bool.not_true, Bool.false_or, List.any_eq_true, List.mem_range, Bool.and_eq_true] at this
    obtain ⟨k, _, hk1, hk2⟩ := this
    exact ⟨k, (E_iff h i l k).2 hk1, rel_getD hk2⟩
  · intro hA e he
    unfold bakE
    by_cases hj : e.fr = j
    · have hb := h' e he
      obtain ⟨k, h1, h2⟩ := hA e.le.toNat e.to.toNat ⟨e, he, hj, by omega, by omega⟩
      have h3 := (E_iff h i e.le.toNat k).1 h1
      rw [show ((e.le.toNat : Nat) : Int) = e.le by omega] at h3
      obtain ⟨e', he', _, _, h4⟩ := h1
      have := h e' he'
      rw [stepB_one h]
      simp only [Bool.or_eq_true, List.any_eq_true, List.mem_range, Bool.and_eq_true]
      exact Or.inr ⟨k, by omega, h3, h2.2⟩
    · have : (e.fr == (j : Int)) = false := by simpa using hj
      rw [this]; rfl
end Go.Proofs.YtcmgkekaeafgaaaDoor

namespace Go.Proofs.YtcmgkekaeafgaaaDoor
open Go Go.RowKit
set_option maxHeartbeats 2000000

theorem spec_l15Backs {lo hi lo' hi' lo2 hi2 : Nat} {A : Option Addr} {n c : Nat} {B : Option Addr} {m d : Nat} {C : Option Addr} {r f : Nat} {s t : Sys} {R : List Nat} {p q i j : Nat} {w : World} (h : SysAt w lo hi A n s) (h' : SysAt w lo' hi' B m t) (hR : Reads w lo2 hi2 1 C r (nats R)) (hs : ∀ r ∈ R, Sm r)
    (hsp : s.st = p) (hf : Few p s.edges) (hg : Few q t.edges) (hp : p ≤ 16) (hq : q ≤ 16) (hi : i < 32) (hl : R.length = p) :
    Calls Tryd.prog 53 #[.agg #[.int .i64 s.al, .int .i64 s.st, .slice A n c], .agg #[.int .i64 t.al, .int .i64 t.st, .slice B m d], .slice C r f, .int .i64 i, .int .i64 j] w fun e w' => e = .returned (.bool (t.edges.all (bakE p s.edges R i j))) ∧ Ext w w' := by
  have hm := h'.2.len
  have hL := hide h'.1
  have HR := hide (fun W (hW : Ext w W) => h'.2.ext hW)
  have HS := hide (fun W (hW : Ext w W) => h.ext hW)
  have HC := hide (fun W (hW : Ext w W) => hR.ext hW)
  have hrl := hide (show R.length = r by have := hR.length; rw [nats_length] at this; omega)
  have Hf := hide hf
  have Hg := hide hg
  have Hs := hide hs
  clear hf hg hs h h'
  rw [hsp]
  go_enter Tryd.func53, Tryd.ntmps53
  go_wp2
  go_loopw [11] (fun i' wr => ∃ k : Nat, k ≤ m ∧ i' = .int .i64 k ∧ Hid ((t.edges.take k).all (bakE p s.edges R i j) = true) ∧ Ext ((w.alloc (.cells #[.int .i64 s.al, .int .i64 p, .slice A n c] 25)).alloc (.cells #[.int .i64 t.al, .int .i64 t.st, .slice B m d] 25)) wr) (fun i' _ => m - (intOf i').toNat)
  case atStart => exact ⟨0, Nat.zero_le _, rfl, rfl, Ext.refl _⟩
  case round =>
    obtain ⟨k, hk, rfl, hall, hexb⟩ := hrel
    have hext := (((Ext.refl w).alloc _).alloc _).trans hexb
    obtain ⟨bk1, bk2⟩ := ext_blk2 hexb
    have cb2 := bk2.cell
    by_cases hlt : k < m
    · obtain ⟨b, o, x, rfl, _, _, hx, c0, c1, c2⟩ := (HR.out wr hext).edge hlt
      obtain ⟨⟨f0, f1⟩, ⟨g0, g1⟩, ⟨t0, t1⟩⟩ := Hg.out x (List.mem_of_getElem? hx.out)
      have Htk := hide (show t.edges.take (k + 1) = t.edges.take k ++ [x] by rw [List.take_add_one, hx.out]; rfl)
      obtain ⟨g, hge⟩ : ∃ g : Nat, x.fr = g := ⟨x.fr.toNat, by omega⟩
      obtain ⟨u, hue⟩ : ∃ u : Nat, x.to = u := ⟨x.to.toNat, by omega⟩
      rw [hge] at c0 f0 f1
      rw [hue] at c2 t0 t1
      have hE := hide (show bakE p s.edges R i j x = (!((g : Int) == (j : Int)) || (List.range p).any fun n => (stepB s.edges (2 ^ i) x.le).testBit n && (R.getD n 0).testBit u) by unfold bakE; rw [hge, hue]; rfl)
      have hsm := hide (show Sm (stepB s.edges (2 ^ i) x.le) from Nat.lt_of_lt_of_le (stepB_lt Hf.out _ _) (by rw [show (4294967296 : Nat) = 2 ^ 32 from rfl]; exact Nat.pow_le_pow_right (by omega) (by omega)))
      by_cases hgi : g = j
      · subst hgi
        have hgi' : ((g : Int) != (g : Int)) = false := by simp
        go_wp2_with fail
        have hxq := (Ext.refl wr).alloc (.cells #[.int .i64 g, .int .i64 x.le, .int .i64 u] 65)
        have hbq := Blk.new wr 65 #[.int .i64 g, .int .i64 x.le, .int .i64 u]
        generalize wr.alloc (.cells #[.int .i64 g, .int .i64 x.le, .int .i64 u] 65) = wq at *
        have hbq' : ∀ W, Ext wq W → ∀ a, W.cell? ⟨wr.heap.size, a, none⟩ = #[Value.int .i64 g, .int .i64 x.le, .int .i64 u][a]? := fun W hW => (hbq.ext hW).cell
        have bk3 : ∀ W, Ext wq W → ∀ a, W.cell? ⟨w.heap.size, a, none⟩ = #[Value.int .i64 s.al, .int .i64 p, .slice A n c][a]? := fun W hW => (bk1.ext (hxq.trans hW)).cell
        have cS : ∀ W, Ext wq W → Calls Tryd.prog 73 #[.agg #[.int .i64 s.al, .int .i64 p, .slice A n c], .int .i64 (2 ^ i : Nat), .int .i64 x.le] W fun e w' => e = .returned (.int .i64 (stepB s.edges (2 ^ i) x.le : Nat)) ∧ Ext W w' := fun W hW => by
          rw [← hsp]
          exact spec_l2Step (HS.out W ((hext.trans hxq).trans hW)) Hf.out hp (Sm.bit hi)
        have CS := hide cS
        have hqq := Ext.refl wq
        clear cS bk1 bk2 cb2 c0 c1 c2
        go_region_held3 (fun W => Ext wq W) (first | assumption | (refine Ext.drew ?_; assumption) | (refine Ext.trans ?_ (by assumption); assumption) | (refine Ext.trans ?_ (by assumption); refine Ext.drew ?_; assumption)) (first
          | (go_at_call 51; with_reducible refine (spec_l1Bit i hi _).mono ?_; rintro e w5 ⟨rfl, rfl⟩)
          | (go_at_call 73; refine (CS.out _ ?_).mono ?_; (first | assumption | (refine Ext.drew ?_; assumption)); rintro e w6 ⟨rfl, hx6⟩))
        go_wp2_with fail
        obtain ⟨wo, rfl⟩ : ∃ wo : World, wo = wr := ⟨_, rfl⟩
        have hw6 : Ext wq w6 := by assumption
        go_loopw [13, 15] (fun v i' wr => ∃ y : Nat, y ≤ p ∧ i' = .int .i64 y ∧ ∃ fd : Bool, v = .bool fd ∧ Hid (fd = (List.range y).any fun n => (stepB s.edges (2 ^ i) x.le).testBit n && (R.getD n 0).testBit u) ∧ Ext w6 wr) (fun _ i' _ => p - (intOf i').toNat)
        case atStart => exact ⟨0, Nat.zero_le _, rfl, false, rfl, rfl, Ext.refl _⟩
        case round =>
          obtain ⟨y, hy, rfl, fd, rfl, hfd, hx7⟩ := hrel
          have bk4 := bk3 _ (hw6.trans hx7)
          have hb4 := hbq' _ (hw6.trans hx7)
          by_cases hyp : y < p
          · obtain ⟨ad, v, rfl, _, _, hv, hvc⟩ := (HC.out wr (((hext.trans hxq).trans hw6).trans hx7)).nat (k := y) (by have := hrl.out; omega)
            have hvs := Hs.out v (List.mem_of_getElem? hv.out)
            have hyr : y < r := by have := hrl.out; omega
            have hvD := hide (show R.getD y 0 = v by rw [List.getD_eq_getElem?_getD, hv.out]; rfl)
            have hstep := hide (show ((List.range (y + 1)).any fun n => (stepB s.edges (2 ^ i) x.le).testBit n && (R.getD n 0).testBit u) = (fd || ((stepB s.edges (2 ^ i) x.le).testBit y && v.testBit u)) by rw [List.range_succ, List.any_append, ← hfd.out]; simp only [List.any_cons, List.any_nil, Bool.or_false, hvD.out])
            have hx8 : ∀ W, Ext wr W → Ext w6 W := fun W hW => hx7.trans hW
            have Hx8 := hide hx8
            clear hx8
            have c1 : ∀ W, Ext wr W → W.cell? (ad.add y) = some (.int .i64 (v : Nat)) := fun W hW => hW.cell_some hvc
            have c2 : ∀ W, Ext wr W → ∀ a, W.cell? ⟨wo.heap.size, a, none⟩ = #[Value.int .i64 g, .int .i64 x.le, .int .i64 u][a]? := fun W hW => hbq' _ (hw6.trans (hx7.trans hW))
            clear hb4 hbq' bk3 hvc
            have hyr0 : (0 : Int) ≤ (y : Int) := by omega
            have hyr1 : (y : Int) < (r : Int) := by omega
            have hrr := Ext.refl wr
            cases fd
            · cases hb1 : (stepB s.edges (2 ^ i) x.le).testBit y
              · have Hb1 := hide hb1
                clear hb1
                go_wp2_with fail
                refine wp_region_ord (fun X => Ext wr X) [0, 1, 2, 3, 4, 5, 6, 7, 8, 9, 10, 11, 12, 13, 14, 15] (by kernel_rfl) rfl (by kernel_rfl) (by kernel_rfl) (fun _ _ _ _ _ h => h) (by first | assumption | exact (Ext.refl _).drew | (refine Ext.drew ?_; assumption)) (fun hS => ?_)
                repeat (first | (refine seq_skip rfl rfl (by assumption) ?_; simp only [Act.put, List.setIfInBounds_toArray, List.set_cons_zero, List.set_cons_succ]) | (refine seq_read (v := ?_) rfl rfl rfl (fun X hX => ?_) (by assumption) ?_; rotate_left; (focus (go_simp <;> with_reducible rfl)); simp only [Act.put, List.setIfInBounds_toArray, List.set_cons_zero, List.set_cons_succ]))
                (refine seq_step rfl rfl rfl (fun K hK => ?_); go_simp)
                refine (spec_l1Has _ y hsm.out _ (by omega)).mono ?_
                rw [Hb1.out]; rintro e w9 ⟨rfl, rfl⟩
                refine hK.out _ _ (by assumption) (fun hS => ?_)
                (try simp only [Act.put, List.setIfInBounds_toArray, List.set_cons_zero, List.set_cons_succ])
                repeat (first | (refine seq_skip rfl rfl (by assumption) ?_; simp only [Act.put, List.setIfInBounds_toArray, List.set_cons_zero, List.set_cons_succ]) | (refine seq_read (v := ?_) rfl rfl rfl (fun X hX => ?_) (by assumption) ?_; rotate_left; (focus (go_simp <;> with_reducible rfl)); simp only [Act.put, List.setIfInBounds_toArray, List.set_cons_zero, List.set_cons_succ]))
                refine seq_nil ?_
                go_wp2_with fail
                go_roundw
                case rel => exact ⟨y + 1, by omega, by go_num, false, rfl, by unfold Hid; rw [hstep.out, Hb1.out]; simp, Hx8.out _ (by assumption)⟩
                case measure => simp [intOf]; omega
              · have Hb1 := hide hb1
                clear hb1
                go_wp2_with fail
                refine wp_region_ord (fun X => Ext wr X) [0, 1, 2, 3, 4, 5, 6, 7, 8, 9, 10, 11, 12, 13, 14, 15] (by kernel_rfl) rfl (by kernel_rfl) (by kernel_rfl) (fun _ _ _ _ _ h => h) (by first | assumption | exact (Ext.refl _).drew | (refine Ext.drew ?_; assumption)) (fun hS => ?_)
                repeat (first | (refine seq_skip rfl rfl (by assumption) ?_; simp only [Act.put, List.setIfInBounds_toArray, List.set_cons_zero, List.set_cons_succ]) | (refine seq_read (v := ?_) rfl rfl rfl (fun X hX => ?_) (by assumption) ?_; rotate_left; (focus (go_simp <;> with_reducible rfl)); simp only [Act.put, List.setIfInBounds_toArray, List.set_cons_zero, List.set_cons_succ]))
                (refine seq_step rfl rfl rfl (fun K hK => ?_); go_simp)
                refine (spec_l1Has _ y hsm.out _ (by omega)).mono ?_
                rw [Hb1.out]; rintro e w9 ⟨rfl, rfl⟩
                refine hK.out _ _ (by assumption) (fun hS => ?_)
                (try simp only [Act.put, List.setIfInBounds_toArray, List.set_cons_zero, List.set_cons_succ])
                repeat (first | (refine seq_skip rfl rfl (by assumption) ?_; simp only [Act.put, List.setIfInBounds_toArray, List.set_cons_zero, List.set_cons_succ]) | (refine seq_read (v := ?_) rfl rfl rfl (fun X hX => ?_) (by assumption) ?_; rotate_left; (focus (go_simp <;> with_reducible rfl)); simp only [Act.put, List.setIfInBounds_toArray, List.set_cons_zero, List.set_cons_succ]))
                (refine seq_step rfl rfl rfl (fun K hK => ?_); go_simp)
                refine (spec_l1Has v u hvs _ (by omega)).mono ?_
                rintro e w9 ⟨rfl, rfl⟩
                refine hK.out _ _ (by assumption) (fun hS => ?_)
                (try simp only [Act.put, List.setIfInBounds_toArray, List.set_cons_zero, List.set_cons_succ])
                repeat (first | (refine seq_skip rfl rfl (by assumption) ?_; simp only [Act.put, List.setIfInBounds_toArray, List.set_cons_zero, List.set_cons_succ]) | (refine seq_read (v := ?_) rfl rfl rfl (fun X hX => ?_) (by assumption) ?_; rotate_left; (focus (go_simp <;> with_reducible rfl)); simp only [Act.put, List.setIfInBounds_toArray, List.set_cons_zero, List.set_cons_succ]))
                refine seq_nil ?_
                go_wp2_with fail
                go_roundw
                case rel => exact ⟨y + 1, by omega, by go_num, v.testBit u, rfl, by unfold Hid; rw [hstep.out, Hb1.out]; simp, Hx8.out _ (by assumption)⟩
                case measure => simp [intOf]; omega
            · go_wp2_with fail
              refine wp_region_ord (fun X => Ext wr X) [0, 1, 2, 3, 4, 5, 6, 7, 8, 9, 10, 11, 12, 13, 14, 15] (by kernel_rfl) rfl (by kernel_rfl) (by kernel_rfl) (fun _ _ _ _ _ h => h) (by first | assumption | exact (Ext.refl _).drew | (refine Ext.drew ?_; assumption)) (fun hS => ?_)
              repeat (first | (refine seq_skip rfl rfl (by assumption) ?_; simp only [Act.put, List.setIfInBounds_toArray, List.set_cons_zero, List.set_cons_succ]) | (refine seq_read (v := ?_) rfl rfl rfl (fun X hX => ?_) (by assumption) ?_; rotate_left; (focus (go_simp <;> with_reducible rfl)); simp only [Act.put, List.setIfInBounds_toArray, List.set_cons_zero, List.set_cons_succ]))
              refine seq_nil ?_
              go_wp2_with fail
              go_roundw
              case rel => exact ⟨y + 1, by omega, by go_num, true, rfl, by unfold Hid; rw [hstep.out]; simp, Hx8.out _ (by assumption)⟩
              case measure => simp [intOf]; omega
          · obtain rfl : p = y := by omega
            cases fd
            · go_wp2_with fail
              go_ret
              refine ⟨ret_bool ?_, ((hext.trans hxq).trans hw6).trans hx7⟩
              have hF : bakE p s.edges R i g x = false := by rw [hE.out, ← hfd.out]; simp
              refine (Bool.eq_false_iff.2 fun hc => ?_).symm
              have := List.all_eq_true.1 hc x (List.mem_of_getElem? hx.out)
              rw [hF] at this
              cases this
            · go_wp2_with fail
              go_roundw
              case rel => exact ⟨k + 1, by omega, by go_num, by
                have hF : bakE p s.edges R i g x = true := by rw [hE.out, ← hfd.out]; simp
                unfold Hid; rw [Htk.out, List.all_append, hall.out]; simp [hF], ((hexb.trans hxq).trans hw6).trans hx7⟩
              case measure => simp [intOf]; omega
      · have hgi' : ((g : Int) != (j : Int)) = true := by simp; omega
        have hE2 := hide (show bakE p s.edges R i j x = true by rw [hE.out, show ((g : Int) == (j : Int)) = false by simp; omega]; rfl)
        go_wp2_with fail
        go_roundw
        case rel => exact ⟨k + 1, by omega, by go_num, by unfold Hid; rw [Htk.out, List.all_append, hall.out]; simp [hE2.out], hexb.alloc _⟩
        case measure => simp [intOf]; omega
    · obtain rfl : m = k := by omega
      go_wp2
      go_ret
      have := hall.out
      rw [hL.out, List.take_length] at this
      exact ⟨ret_bool this.symm, hext⟩
end Go.Proofs.YtcmgkekaeafgaaaDoor

namespace Go.Proofs.YtcmgkekaeafgaaaDoor
open Go Go.RowKit
set_option maxHeartbeats 2000000

/-- The block b is a table of the moves of these edges. -/
def MovB (w : World) (b : Nat) (es : List Edg) : Prop := ∃ cs, Blk w b 105 cs ∧ ∀ i l : Nat, i < 16 → l < 6 → cs[i * 6 + l]? = some (.int .i64 (succ es i l : Nat))
theorem MovB.at_ {w : World} {b : Nat} {es : List Edg} (h : MovB w b es) : MovAt w b es := by
  obtain ⟨cs, hb, hc⟩ := h
  exact fun i l hi hl => by rw [hb.cell, hc i l hi hl]
theorem MovB.ext {w w' : World} {b : Nat} {es : List Edg} (h : MovB w b es) (hx : Ext w w') : MovB w' b es := by
  obtain ⟨cs, hb, hc⟩ := h
  exact ⟨cs, hb.ext hx, hc⟩

theorem zero_mov (w : World) : (zeroValue 105).run Tryd.prog w = .ok (.agg (Array.replicate 96 (.int .i64 0))) w := by kernel_rfl

theorem wrap_pow {t : Nat} (ht : t < 32) : wrap64 ((2 : Int) ^ t) = ((2 ^ t : Nat) : Int) := by
  have hp := (Sm.bit ht).lt
  have e : (2 : Int) ^ t = ((2 ^ t : Nat) : Int) := by simp
  rw [e]
  generalize (2 : Nat) ^ t = p at *
  unfold wrap64
  omega
theorem mov_store {cs : Array Value} {es : List Edg} {f g t i l : Nat} (hcs : ∀ i l : Nat, i < 16 → l < 6 → cs[i * 6 + l]? = some (.int .i64 (succ es i l : Nat))) (hs : Sm (succ es f g)) (ht : t < 16) (hf : f < 16) (hg : g < 6) (hi : i < 16) (hl : l < 6) :
    (cs.setIfInBounds (f * 6 + g) (.int .i64 (bits .or .i64 (succ es f g : Nat) (wrap64 (2 ^ t)))))[i * 6 + l]? = some (.int .i64 ((if (f : Int) = i ∧ (g : Int) = l then succ es i l ||| 2 ^ (t : Int).toNat else succ es i l : Nat))) := by
  rw [wrap_pow (by omega), bits_or hs (Sm.bit (by omega)), Array.getElem?_setIfInBounds]
  by_cases he : f * 6 + g = i * 6 + l
  · have e1 : f = i := by omega
    have e2 : g = l := by omega
    subst e1; subst e2
    have hsz : f * 6 + g < cs.size := by
      rcases Nat.lt_or_ge (f * 6 + g) cs.size with h1 | h1
      · exact h1
      · have := hcs f g hf hg
        rw [Array.getElem?_eq_none h1] at this
        cases this
    rw [if_pos rfl, if_pos hsz, if_pos ⟨rfl, rfl⟩]
    rfl
  · rw [if_neg he, hcs i l hi hl, if_neg]
    rintro ⟨h1, h2⟩
    exact he (by omega)

set_option maxRecDepth 100000 in
theorem impl_movesOf {lo hi : Nat} {A : Option Addr} {n c : Nat} {s : Sys} {w : World} (h : SysAt w lo hi A n s) (hf : Few 16 s.edges) :
    Calls Tryd.prog 48 #[.agg #[.int .i64 s.al, .int .i64 s.st, .slice A n c]] w fun e w' => ∃ b, e = .returned (.pointer (some ⟨b, 0, none⟩)) ∧ w.heap.size ≤ b ∧ MovB w' b s.edges ∧ Ext w w' := by
  have hn := h.2.len
  have hL := hide h.1
  have hR := fun W (hW : Ext w W) => h.2.ext hW
  have HR := hide hR
  clear hR
  have Hf := hide hf
  clear hf
  go_enter Tryd.func48, Tryd.ntmps48
  have hz := zero_mov
  generalize hzz : Array.replicate 96 (Value.int .i64 0) = zs at hz
  have Hz := hide hzz
  clear hzz
  go_wp2_with (simp only [hz])
  go_loopw [10] (fun i wr => ∃ k : Nat, k ≤ n ∧ i = .int .i64 k ∧ MovB wr (w.heap.size + 1) (s.edges.take k) ∧ Ext w wr) (fun i _ => n - (intOf i).toNat)
  case atStart => exact ⟨0, Nat.zero_le _, rfl, ⟨zs, by have := Blk.new (w.alloc (.cells #[.int .i64 s.al, .int .i64 s.st, .slice A n c] 25)) 105 zs; simpa using this, fun i l hi hl => by rw [← Hz.out, Array.getElem?_replicate, if_pos (by omega)]; rfl⟩, ((Ext.refl _).alloc _).alloc _⟩
  case round =>
    obtain ⟨k, hk, rfl, hmov, hext⟩ := hrel
    by_cases hlt : k < n
    · obtain ⟨b, o, x, rfl, hlo, hhi, hx, c0, c1, c2⟩ := (HR.out wr hext).edge hlt
      obtain ⟨⟨f0, f1⟩, ⟨g0, g1⟩, ⟨t0, t1⟩⟩ := Hf.out x (List.mem_of_getElem? hx.out)
      obtain ⟨f, hf⟩ : ∃ f : Nat, x.fr = f := ⟨x.fr.toNat, by omega⟩
      obtain ⟨g, hg⟩ : ∃ g : Nat, x.le = g := ⟨x.le.toNat, by omega⟩
      obtain ⟨t, ht⟩ : ∃ t : Nat, x.to = t := ⟨x.to.toNat, by omega⟩
      rw [hf] at c0 f0 f1
      rw [hg] at c1 g0 g1
      rw [ht] at c2 t0 t1
      have hf' : f < 16 := by omega
      have hg' : g < 6 := by omega
      have ht' : t < 16 := by omega
      clear f0 f1 g0 g1 t0 t1
      obtain ⟨cs, hblk, hcs⟩ := hmov
      have hs1 : Sm (succ (s.edges.take k) f g) := succ_sm (n := 16) (fun e he => Hf.out e (List.mem_of_mem_take he)) (by omega) f g
      go_wp2
      have hxq := (Ext.refl wr).alloc (.cells #[.int .i64 f, .int .i64 g, .int .i64 t] 65)
      have hbq := Blk.new wr 65 #[.int .i64 f, .int .i64 g, .int .i64 t]
      generalize hq : wr.alloc (.cells #[.int .i64 f, .int .i64 g, .int .i64 t] 65) = wq at *
      clear hq
      have hblq := hblk.ext hxq
      have hd : wq.cell? ⟨w.heap.size + 1, f * 6 + g, none⟩ = some (.int .i64 (succ (s.edges.take k) f g : Nat)) := by rw [hblq.cell, hcs f g hf' hg']
      have hfz := hblq.frozen (f * 6 + g)
      have q0 := hbq.cell 0
      have q1 := hbq.cell 1
      have q2 := hbq.cell 2
      go_still_tail 16, (by kernel_rfl)
      have f1 : (f : Int) < 16 := by omega
      have g1 : (g : Int) < 6 := by omega
      have t1 : (t : Int) ≤ 64 := by omega
      repeat (refine wpStill_step (fun K hK => ?_); go_simp; (try simp only [f1, g1, t1, if_true]); refine hK _ ?_; clear hK K)
      refine wpStill_nil ?_
      change wpList _ _ _ _ _ wq.drew
      have hd2 : wq.drew.cell? ⟨w.heap.size + 1, f * 6 + g, none⟩ = some (.int .i64 (succ (s.edges.take k) f g : Nat)) := hd
      have hfz2 : wq.drew.frozen? ⟨w.heap.size + 1, f * 6 + g, none⟩ = false := hfz
      have hblq2 : Blk wq.drew (w.heap.size + 1) 105 cs := hblq
      have hxq2 : Ext wr wq.drew := hxq.drew
      generalize wq.drew = w2 at *
      have Hu := hide (succ_snoc (s.edges.take k) x)
      have Htk := hide (show s.edges.take (k + 1) = s.edges.take k ++ [x] by rw [List.take_add_one, hx.out]; rfl)
      go_wp2
      go_roundw
      case rel => exact ⟨k + 1, by omega, by go_num, ⟨_, hblq2.set_ (f * 6 + g) _, fun i l hi hl => by
        rw [Htk.out, Hu.out, hf, hg, ht]
        exact mov_store hcs hs1 ht' hf' hg' hi hl⟩, (hext.trans hxq2).setCell (by dsimp only; omega) _⟩
      case measure => simp [intOf]; omega
    · obtain rfl : k = n := by omega
      go_wp2
      go_ret
      rw [hL.out, List.take_length] at hmov
      exact ⟨_, rfl, by omega, hmov, hext⟩
end Go.Proofs.YtcmgkekaeafgaaaDoor

namespace Go.Proofs.YtcmgkekaeafgaaaDoor
open Go Go.RowKit
set_option maxHeartbeats 4000000

/-- The sum of the numbers in a row of cells. -/
def sumAt (w : World) (g p : Nat) : Nat := ((List.range p).map fun i => (intOf ((w.cell? ⟨g, i, none⟩).getD undef)).toNat).sum
theorem sumAt_eq {w : World} {base g p c : Nat} {R : List Nat} (h : w.ownsRow base 3 1 (.slice (some ⟨g, 0, none⟩) p c) p (nats R)) : sumAt w g p = R.sum := by
  have hl : R.length = p := by have := h.1; rw [nats_length] at this; omega
  have hm : ((List.range p).map fun i => (intOf ((w.cell? ⟨g, i, none⟩).getD undef)).toNat) = R := by
    apply List.ext_getElem (by simp [hl])
    intro i h1 h2
    rw [List.getElem_map, List.getElem_range, h.cellAt i (by omega)]
    simp [nats, h2, intOf]
  unfold sumAt
  rw [hm]
theorem diff_pow {r j : Nat} (h : r.testBit j = true) : diff r (2 ^ j) = r - 2 ^ j := by
  apply Nat.eq_of_testBit_eq
  intro k
  rw [diff_bit, testBit_sub_pow h, Nat.testBit_two_pow]
  by_cases hk : k = j
  · simp [hk]
  · simp [hk, Ne.symm hk]
theorem nats_set (R : List Nat) (i v : Nat) : nats (R.set i v) = (nats R).set i (.int .i64 (v : Nat)) := by simp [nats, List.map_set]

theorem nodup_ne {l : List Nat} (h : l.Nodup) {x y j : Nat} (hxy : x < y) (hx : l[x]? = some j) (hy : l[y]? = some j) : False := by
  obtain ⟨h1, e1⟩ := List.getElem?_eq_some_iff.1 hx
  obtain ⟨h2, e2⟩ := List.getElem?_eq_some_iff.1 hy
  exact (List.pairwise_iff_getElem.1 h) x y h1 h2 hxy (by rw [e1, e2])
theorem nats_fill {k p v : Nat} {rest : List Value} (hr : rest.length = p - k) (hk : k < p) : (nats (List.replicate k v) ++ rest).set k (.int .i64 (v : Nat)) = nats (List.replicate (k + 1) v) ++ rest.drop 1 := by
  match rest, hr with
  | [], hr => simp at hr; omega
  | x :: r, _ =>
    have hl : (nats (List.replicate k v)).length = k := by rw [nats_length, List.length_replicate]
    rw [List.set_append_right _ _ (by omega), hl, Nat.sub_self, List.replicate_succ', nats_append]
    simp [nats]
theorem wrap_full {q : Nat} (hq : q ≤ 16) : wrap64 (wrap64 ((2 : Int) ^ q) - 1) = ((2 ^ q - 1 : Nat) : Int) := by
  rw [wrap_pow (by omega)]
  have hp := (Sm.bit (n := q) (by omega)).lt
  have h1 := Nat.two_pow_pos q
  generalize (2 : Nat) ^ q = x at *
  unfold wrap64
  omega

set_option maxRecDepth 100000 in
theorem impl_greatestRelation {both : Bool} {lo hi lo' hi' : Nat} {A : Option Addr} {n c : Nat} {B : Option Addr} {m d : Nat} {s t : Sys} {p q : Nat} {w : World} (h : SysAt w lo hi A n s) (h' : SysAt w lo' hi' B m t) (hT : Tab w)
    (hsp : s.st = p) (htq : t.st = q) (hp1 : 1 ≤ p) (hp : p ≤ 16) (hq : q ≤ 16) (hf : Few p s.edges) (hg : Few q t.edges) :
    Calls Tryd.prog 23 #[.agg #[.int .i64 s.al, .int .i64 s.st, .slice A n c], .agg #[.int .i64 t.al, .int .i64 t.st, .slice B m d], .bool both] w fun e w' => ∃ g R, e = .returned (.slice (some ⟨g, 0, none⟩) p p) ∧ w'.ownsRow w.heap.size 3 1 (.slice (some ⟨g, 0, none⟩) p p) p (nats R) ∧ Gfp both s.edges t.edges p q R ∧ Ext w w' := by
  have HS := hide (fun W (hW : Ext w W) => h.ext hW)
  have HS' := hide (fun W (hW : Ext w W) => h'.ext hW)
  have Hf := hide hf
  have Hg := hide hg
  have hf16 := hide (show Few 16 s.edges from fun e he => by have := hf e he; omega)
  have hg16 := hide (show Few 16 t.edges from fun e he => by have := hg e he; omega)
  clear h h' hf hg
  rw [hsp, htq]
  go_enter Tryd.func23, Tryd.ntmps23
  go_wp2_with fail
  have hext0 := ((Ext.refl w).alloc (.cells #[.int .i64 s.al, .int .i64 p, .slice A n c] 25)).alloc (.cells #[.int .i64 t.al, .int .i64 q, .slice B m d] 25)
  have hb1 := Blk.new w 25 #[.int .i64 s.al, .int .i64 p, .slice A n c]
  have hb2 := Blk.new (w.alloc (.cells #[.int .i64 s.al, .int .i64 p, .slice A n c] 25)) 25 #[.int .i64 t.al, .int .i64 q, .slice B m d]
  replace hb1 := hb1.ext ((Ext.refl _).alloc (.cells #[.int .i64 t.al, .int .i64 q, .slice B m d] 25))
  have hsz : w.heap.size + 2 = ((w.alloc (.cells #[.int .i64 s.al, .int .i64 p, .slice A n c] 25)).alloc (.cells #[.int .i64 t.al, .int .i64 q, .slice B m d] 25)).heap.size := by simp
  rw [show (w.alloc (.cells #[.int .i64 s.al, .int .i64 p, .slice A n c] 25)).heap.size = w.heap.size + 1 by simp] at hb2
  generalize (w.alloc (.cells #[.int .i64 s.al, .int .i64 p, .slice A n c] 25)).alloc (.cells #[.int .i64 t.al, .int .i64 q, .slice B m d] 25) = w0 at *
  have e1 : ∀ W, Ext w0 W → ∀ j, W.cell? ⟨w.heap.size, j, none⟩ = #[Value.int .i64 s.al, .int .i64 p, .slice A n c][j]? := fun W hW => (hb1.ext hW).cell
  have e2 : ∀ W, Ext w0 W → ∀ j, W.cell? ⟨w.heap.size + 1, j, none⟩ = #[Value.int .i64 t.al, .int .i64 q, .slice B m d][j]? := fun W hW => (hb2.ext hW).cell
  have hr := Ext.refl w0
  have cS : ∀ W, Ext w0 W → Calls Tryd.prog 48 #[.agg #[.int .i64 s.al, .int .i64 p, .slice A n c]] W fun e w' => ∃ b, e = .returned (.pointer (some ⟨b, 0, none⟩)) ∧ W.heap.size ≤ b ∧ MovB w' b s.edges ∧ Ext W w' := fun W hW => by
    rw [← hsp]
    exact impl_movesOf (HS.out _ (hext0.trans hW)) hf16.out
  have cT : ∀ W, Ext w0 W → Calls Tryd.prog 48 #[.agg #[.int .i64 t.al, .int .i64 q, .slice B m d]] W fun e w' => ∃ b, e = .returned (.pointer (some ⟨b, 0, none⟩)) ∧ W.heap.size ≤ b ∧ MovB w' b t.edges ∧ Ext W w' := fun W hW => by
    rw [← htq]
    exact impl_movesOf (HS'.out _ (hext0.trans hW)) hg16.out
  have CS := hide cS
  have CT := hide cT
  clear cS cT
  go_region_held3 (fun W => Ext w0 W) (first | assumption | (refine Ext.drew ?_; assumption) | (refine Ext.trans ?_ (by assumption); assumption) | (refine Ext.trans ?_ (by assumption); refine Ext.drew ?_; assumption)) (first
    | (go_at_call 48; with_reducible refine (CS.out _ ?_).mono ?_; (first | assumption | (refine Ext.drew ?_; assumption)); rintro e w1 ⟨b1, rfl, hlb1, hm1, hx1⟩)
    | (go_at_call 48; with_reducible refine (CT.out _ ?_).mono ?_; (first | assumption | (refine Ext.drew ?_; assumption)); rintro e w2 ⟨b2, rfl, hlb2, hm2, hx2⟩))
  have m2 := hm2
  have m1 : MovB w2 b1 s.edges := by first | exact hm1.ext hx2 | exact hm1.ext (((Ext.refl _).drew).trans hx2)
  have hw02 : Ext w0 w2 := by assumption
  have hw2 := hext0.trans hw02
  clear hm1 hm2 hx1 hx2 hlb1 hlb2 hb1 hb2
  have e1' := e1 w2 hw02
  go_wp2_with (at_make; refine wpList_make w w2 rfl _ _ 48 rfl 3 _ 1 8 Tryd.underlying48 info_int _ _ p rfl rfl hw2 (by omega) (by unfold maxLen; omega) ?_; intro w3 hw3 hown3 hx23 hsz3)
  clear e1 e1'
  have hgw : w.heap.size ≤ w2.heap.size := hw2.size
  have hgw1 : w.heap.size + 1 < w2.heap.size := by have := hw02.size; omega
  obtain ⟨g, hgE⟩ : ∃ g, g = w2.heap.size := ⟨_, rfl⟩
  rw [← hgE] at hown3 hsz3 hgw hgw1 ⊢
  have hgg : w2.heap.size ≤ g := by omega
  clear hgE
  go_loopw [25] (fun i wr => ∃ k : Nat, k ≤ p ∧ i = .int .i64 k ∧ ∃ rest : List Value, Hid (rest.length = p - k) ∧ wr.ownsRow w.heap.size 3 1 (.slice (some ⟨g, 0, none⟩) p p) p (nats (List.replicate k (2 ^ q - 1)) ++ rest) ∧ Ext w2 wr) (fun i _ => p - (intOf i).toNat)
  case atStart => exact ⟨0, Nat.zero_le _, rfl, _, by have := hown3.1; unfold Hid; rw [this]; omega, by simpa [nats] using hown3, hx23⟩
  case round =>
    obtain ⟨k, hk, rfl, rest, hrest, hown, hext⟩ := hrel
    have e2' := e2 wr (hw02.trans hext)
    by_cases hlt : k < p
    · obtain ⟨o0, g0⟩ := own_cell hown k (by omega)
      have f0 := hown.frozenAt k
      have q1 : (q : Int) ≤ 64 := by omega
      have hst := hown.stored k (.int .i64 ((2 ^ q - 1 : Nat) : Nat))
      rw [nats_fill hrest.out hlt] at hst
      have hwf := hide (wrap_full hq)
      go_wp2
      go_roundw
      case rel => exact ⟨k + 1, by omega, by go_num, rest.drop 1, by have := hrest.out; unfold Hid; rw [List.length_drop]; omega, by rw [hwf.out]; exact hst.1, hext.setCell (by dsimp only; omega) _⟩
      case measure => simp [intOf]; omega
    · obtain rfl : p = k := by omega
      obtain rfl : rest = [] := List.eq_nil_of_length_eq_zero (by have := hrest.out; omega)
      rw [List.append_nil] at hown
      have hI := Inv.start both s.edges t.edges p q
      generalize List.replicate p (2 ^ q - 1) = R at hown hI
      clear hown3 hx23 hw3 hrest hlt e2 e2'
      go_wp2
      go_loopw [11] (fun _ wr => ∃ R : List Nat, wr.ownsRow w.heap.size 3 1 (.slice (some ⟨g, 0, none⟩) p p) p (nats R) ∧ Inv both s.edges t.edges p q R ∧ Ext w2 wr) (fun _ wr => sumAt wr g p)
      case atStart => exact ⟨R, hown, hI, hext⟩
      case round =>
        clear hown hI hext hk
        obtain ⟨R, hown, hI, hext⟩ := hrel
        have hsum := hide (sumAt_eq hown)
        go_wp2
        go_loopw [11, 38] (fun v i wr => ∃ k : Nat, k ≤ p ∧ i = .int .i64 k ∧ ∃ (ch : Bool) (S : List Nat), v = .bool ch ∧ wr.ownsRow w.heap.size 3 1 (.slice (some ⟨g, 0, none⟩) p p) p (nats S) ∧ Inv both s.edges t.edges p q S ∧ Ext w2 wr
          ∧ Hid (ch = false → S = R ∧ ∀ i j, i < k → rel R i j → Ok both s.edges t.edges (rel R) i j) ∧ Hid (ch = true → S.sum < R.sum)) (fun _ i _ => p - (intOf i).toNat)
        case atStart => exact ⟨0, Nat.zero_le _, rfl, false, R, rfl, hown, hI, hext, fun _ => ⟨rfl, fun i j hi => by omega⟩, fun h => by cases h⟩
        case round =>
          clear hown hI hext
          obtain ⟨k, hk, rfl, ch, S, rfl, hown, hI, hext, hno, hyes⟩ := hrel
          by_cases hlt : k < p
          · have hSl : S.length = p := hI.len
            obtain ⟨r, hr⟩ : ∃ r, S[k]? = some r := ⟨_, List.getElem?_eq_getElem (by omega)⟩
            have hr' : S.getD k 0 = r := by rw [List.getD_eq_getElem?_getD, hr]; rfl
            have hrs : Sm r := Nat.lt_of_lt_of_le (hI.small r (List.mem_of_getElem? hr)) (by rw [show (4294967296 : Nat) = 2 ^ 32 from rfl]; exact Nat.pow_le_pow_right (by omega) (by omega))
            have hc0 : wr.cell? ⟨g, k, none⟩ = some (.int .i64 (r : Nat)) := by rw [hown.cellAt k (by omega)]; simp [nats, hr]
            have Hr := hide hr
            have Hr' := hide hr'
            clear hr hr'
            have hT' := (hT.ext hw2).ext hext
            go_wp2_with (go_at_call 49; refine (impl_members r hrs _ hT').mono ?_; rintro e w4 ⟨C, f, rfl, hown4, hx4⟩)
            have hks := letters_length r 32
            have hkm := hide (fun k => @mem_letters r 32 k)
            have hrd := Reads.of_own (own_less hown4 (Nat.le_refl _))
            have hgr : g < wr.heap.size := by
              have := World.block_lt_of_cell? wr _ hc0
              exact this
            have hown5 := own_ext hown hx4
            have hext5 := hext.trans hx4
            have hks0 : ∀ y, 0 ≤ y → ∀ j, (letters r 32)[y]? = some j → rel S k j := fun y _ j hy => by
              have := (hkm.out j).1 (List.mem_of_getElem? hy)
              exact rel_getD (by rw [Hr'.out]; exact this.2)
            have hnd : (letters r 32).Nodup := List.Pairwise.filter _ List.nodup_range
            have hj32 : ∀ j, j ∈ letters r 32 → j < 16 := fun j hj => by
              have h1 := (hkm.out j).1 hj
              have h2 := rel_lt hI (rel_getD (by rw [Hr'.out]; exact h1.2) : rel S k j)
              omega
            have hcov0 : ch = false → ∀ j, rel R k j → ∃ y : Nat, (letters r 32)[y]? = some j := fun hch j hj => by
              obtain ⟨rfl, _⟩ := hno hch
              have h2 := rel_lt hI hj
              have h3 := hj.2
              rw [Hr'.out] at h3
              exact List.getElem?_of_mem ((hkm.out j).2 ⟨by omega, h3⟩)
            have Hcov0 := hide hcov0
            clear hcov0
            have Hks0 := hide hks0
            have Hnd := hide hnd
            have Hj32 := hide hj32
            clear hks0 hnd hj32 hkm hown hext hown4
            generalize letters r 32 = ks at *
            go_loopw [11, 46] (fun v i wr => ∃ x : Nat, x ≤ ks.length ∧ i = .int .i64 x ∧ ∃ (ch : Bool) (S : List Nat), v = .bool ch ∧ wr.ownsRow w.heap.size 3 1 (.slice (some ⟨g, 0, none⟩) p p) p (nats S) ∧ Inv both s.edges t.edges p q S ∧ Ext w2 wr ∧ Frm (fun b => b = g) w4 wr
              ∧ Hid (ch = false → S = R ∧ (∀ i j, i < k → rel R i j → Ok both s.edges t.edges (rel R) i j) ∧ ∀ y, y < x → ∀ j, ks[y]? = some j → Ok both s.edges t.edges (rel R) k j) ∧ Hid (ch = true → S.sum < R.sum) ∧ Hid (∀ y, x ≤ y → ∀ j, ks[y]? = some j → rel S k j)
              ∧ Hid (ch = false → ∀ j, rel R k j → ∃ y : Nat, ks[y]? = some j)) (fun _ i _ => ks.length - (intOf i).toNat)
            case atStart => exact ⟨0, Nat.zero_le _, rfl, ch, S, rfl, hown5, hI, hext5, Frm.refl _ _, fun h => ⟨(hno h).1, (hno h).2, fun y hy => by omega⟩, hyes, Hks0.out, Hcov0.out⟩
            case round =>
              clear hown5 hI hext5 hno hyes
              obtain ⟨x, hx, rfl, ch, S, rfl, hown, hI, hext, hfrm, hno, hyes, hleft, hcov⟩ := hrel
              by_cases hlx : x < ks.length
              · obtain ⟨ad, j, rfl, _, _, hj, hjc⟩ := (hrd.frm hfrm (fun b hb _ hbg => by omega)).nat hlx
                have hj16 := Hj32.out j (List.mem_of_getElem? hj.out)
                have hrel1 := hide (hleft x (Nat.le_refl _) j hj.out)
                have hSl : S.length = p := hI.len
                have hSm : ∀ r ∈ S, Sm r := fun r hr => Nat.lt_of_lt_of_le (hI.small r hr) (by rw [show (4294967296 : Nat) = 2 ^ 32 from rfl]; exact Nat.pow_le_pow_right (by omega) (by omega))
                have hTw := (hT.ext hw2).ext hext
                have hans := impl_answers (both := both) (c := p) (m1.ext hext).at_ (m2.ext hext).at_ (Reads.of_own hown) hSm hTw (show k < 16 by omega) hj16 Hf.out Hg.out hp hq (show p ≤ S.length by omega)
                have Hans := hide hans
                clear hans
                have hiff := hide (ansB_iff (both := both) (R := S) (i := k) (j := j) Hf.out Hg.out hp)
                cases hb : ansB both s.edges t.edges S k j
                · have Hb := hide hb
                  have Hnok := hide (show ¬ Ok both s.edges t.edges (rel S) k j from fun h => by rw [hiff.out.2 h] at hb; cases hb)
                  clear hb
                  go_wp2_with (go_at_call 50; refine (Hans.out).mono ?_; rw [Hb.out]; rintro e w5 ⟨rfl, hx5⟩)
                  obtain ⟨v, hv⟩ : ∃ v, S[k]? = some v := ⟨_, List.getElem?_eq_getElem (by omega)⟩
                  have hvD : S.getD k 0 = v := by rw [List.getD_eq_getElem?_getD, hv]; rfl
                  have hvs := hSm v (List.mem_of_getElem? hv)
                  have hown6 := own_ext hown hx5
                  have hvb : v.testBit j = true := by have := hrel1.out.2; rw [hvD] at this; exact this
                  have hval := hide (show bits .andNot .i64 (v : Nat) (wrap64 (2 ^ j)) = ((v - 2 ^ j : Nat) : Int) by rw [wrap_pow (by omega), bits_andNot hvs (Sm.bit (by omega)), diff_pow hvb])
                  have hext6 := (hext.trans hx5).drew
                  have hown7 := own_ext hown6 ((Ext.refl _).drew)
                  have hfrm7 := (hfrm.ext hx5).ext ((Ext.refl _).drew)
                  have hc7 : w5.drew.cell? ⟨g, k, none⟩ = some (.int .i64 (v : Nat)) := by rw [hown7.cellAt k (by omega)]; simp [nats, hv]
                  have hf7 := hown7.frozenAt k
                  have hkp : (k : Int) < p := by omega
                  have hj64 : (j : Int) ≤ 64 := by omega
                  have hd := hide (hI.drop hrel1.out Hnok.out)
                  have hsd := hide (sum_drop_lt hrel1.out)
                  have hrs2 := hide (fun a b => rel_set hrel1.out a b)
                  rw [hvD] at hd hsd hrs2
                  have hc6 : w5.cell? ⟨g, k, none⟩ = some (.int .i64 (v : Nat)) := hc7
                  have hst := hown7.stored k (.int .i64 ((v - 2 ^ j : Nat) : Nat))
                  rw [← nats_set] at hst
                  have Hvs := hide hv
                  clear hv hvD hvb
                  go_still_tail 8, (by kernel_rfl)
                  repeat (refine wpStill_step (fun K hK => ?_); go_simp; (try simp only [hkp, hj64, if_true]); refine hK _ ?_; clear hK K)
                  try refine wpStill_nil ?_
                  change wpList _ _ _ _ _ w5.drew
                  generalize w5.drew = w6 at *
                  go_wp2
                  go_roundw
                  case rel => exact ⟨x + 1, by omega, by go_num, true, S.set k (v - 2 ^ j), rfl, by rw [hval.out]; exact hst.1, hd.out, hext6.setCell (by dsimp only; omega) _, hfrm7.cell rfl _, (fun h => by cases h), fun _ => Nat.lt_of_lt_of_le hsd.out (by
                    cases ch
                    · rw [(hno rfl).1]; exact Nat.le_refl _
                    · exact Nat.le_of_lt (hyes rfl)), fun y hy i hi => (hrs2.out k i).2 ⟨hleft y (by omega) i hi, fun he => by
                      exact nodup_ne Hnd.out (show x < y by omega) hj.out (by rw [hi, he.2])⟩, fun h => by cases h⟩
                  case measure => simp [intOf]; omega
                · have Hb := hide hb
                  have Hok := hide (hiff.out.1 hb)
                  clear hb
                  go_wp2_with (go_at_call 50; refine (Hans.out).mono ?_; rw [Hb.out]; rintro e w5 ⟨rfl, hx5⟩)
                  go_roundw
                  case rel => exact ⟨x + 1, by omega, by go_num, ch, S, rfl, own_ext hown hx5, hI, hext.trans hx5, hfrm.ext hx5, fun hch => ⟨(hno hch).1, (hno hch).2.1, fun y hy i hi => by
                    rcases Nat.lt_or_ge y x with h1 | h1
                    · exact (hno hch).2.2 y h1 i hi
                    · obtain rfl : y = x := by omega
                      have hji := hj.out
                      rw [hi] at hji
                      obtain rfl := Option.some.inj hji
                      have := Hok.out
                      rw [(hno hch).1] at this
                      exact this⟩, hyes, fun y hy i hi => hleft y (by omega) i hi, hcov⟩
                  case measure => simp [intOf]; omega
              · obtain rfl : x = ks.length := by omega
                go_wp2
                go_roundw
                case rel => exact ⟨k + 1, by omega, by go_num, ch, S, rfl, hown, hI, hext, fun hch => ⟨(hno hch).1, fun i j hi hr => by
                  rcases Nat.lt_or_ge i k with h1 | h1
                  · exact (hno hch).2.1 i j h1 hr
                  · obtain rfl : i = k := by omega
                    obtain ⟨y, hy⟩ := hcov hch j hr
                    exact (hno hch).2.2 y (List.getElem?_eq_some_iff.1 hy).1 j hy⟩, hyes⟩
                case measure => simp [intOf]; omega
          · obtain rfl : p = k := by omega
            cases ch
            · obtain ⟨rfl, hpost⟩ := hno rfl
              have Hpost := hide hpost
              clear hpost hno hyes
              go_wp2
              go_ret
              have hpost := Hpost.out
              exact ⟨g, S, rfl, hown, ⟨hI, fun i j hr => hpost i j (by have := hr.1; have := hI.len; omega) hr⟩, hw2.trans hext⟩
            · have h1 := hide (hyes rfl)
              clear hno hyes
              go_wp2
              go_roundw
              case rel => exact ⟨S, hown, hI, hext⟩
              case measure =>
                rw [sumAt_eq hown, hsum.out]
                exact h1.out
end Go.Proofs.YtcmgkekaeafgaaaDoor

namespace Go.Proofs.YtcmgkekaeafgaaaDoor
open Go Go.RowKit
set_option maxHeartbeats 4000000

theorem own_some {w : World} {base : Nat} {e : TypeId} {size n : Nat} {v : Value} {xs : List Value} (h : w.ownsRow base e size v n xs) (hn : 0 < n) : ∃ g c, v = .slice (some ⟨g, 0, none⟩) n c ∧ base ≤ g := by
  rcases h.2 with ⟨_, h0⟩ | ⟨g, cap, cur, hv, hg, _⟩
  · omega
  · exact ⟨g, cap, hv, hg⟩
theorem ok_false {es es' : List Edg} {p q : Nat} {R : List Nat} {i j : Nat} (h : Few p es) (h' : Few q es') : Ok false es es' (rel R) i j ↔ es.all (folE es' R i j) = true := by
  rw [fol_iff h h']
  exact ⟨fun x => x.1, fun x => ⟨x, fun h => by cases h⟩⟩
theorem ok_true {es es' : List Edg} {p q : Nat} {R : List Nat} {i j : Nat} (h : Few p es) (h' : Few q es') : Ok true es es' (rel R) i j ↔ es.all (folE es' R i j) = true ∧ es'.all (bakE p es R i j) = true := by
  rw [fol_iff h h', bak_iff h h']
  exact ⟨fun x => ⟨x.1, x.2 rfl⟩, fun x => ⟨x.1, fun _ => x.2⟩⟩
theorem replicate_push (k v : Nat) : nats (List.replicate k v) ++ [Value.int .i64 (v : Nat)] = nats (List.replicate (k + 1) v) := by rw [List.replicate_succ', nats_append]; rfl
/-- One for true. -/
def boolN : Value → Nat
  | .bool true => 1
  | _ => 0
/-- What spec.l15Relate hands back. -/
def RetRel (w : World) (both : Bool) (s t : Sys) (p q : Nat) (e : Ending) (w' : World) : Prop :=
  ∃ g c R, e = .returned (.slice (some ⟨g, 0, none⟩) p c) ∧ w'.ownsRow w.heap.size 3 1 (.slice (some ⟨g, 0, none⟩) p c) p (nats R) ∧ Gfp both s.edges t.edges p q R ∧ Ext w w'

set_option maxRecDepth 100000 in
theorem spec_l15Relate_false {lo hi lo' hi' : Nat} {A : Option Addr} {n c : Nat} {B : Option Addr} {m d : Nat} {s t : Sys} {p q : Nat} {w : World} (h : SysAt w lo hi A n s) (h' : SysAt w lo' hi' B m t)
    (hsp : s.st = p) (htq : t.st = q) (hp1 : 1 ≤ p) (hp : p ≤ 16) (hq : q ≤ 16) (hf : Few p s.edges) (hg : Few q t.edges) :
    Calls Tryd.prog 26 #[.agg #[.int .i64 s.al, .int .i64 s.st, .slice A n c], .agg #[.int .i64 t.al, .int .i64 t.st, .slice B m d], .bool false] w (RetRel w false s t p q) := by
  have HS := hide (fun W (hW : Ext w W) => h.ext hW)
  have HT := hide (fun W (hW : Ext w W) => h'.ext hW)
  have Hf := hide hf
  have Hg := hide hg
  clear h h' hf hg
  rw [hsp, htq]
  go_enter Tryd.func26, Tryd.ntmps26
  go_wp2_with fail
  have hext0 := ((Ext.refl w).alloc (.cells #[.int .i64 s.al, .int .i64 p, .slice A n c] 25)).alloc (.cells #[.int .i64 t.al, .int .i64 q, .slice B m d] 25)
  have hb1 := Blk.new w 25 #[.int .i64 s.al, .int .i64 p, .slice A n c]
  have hb2 := Blk.new (w.alloc (.cells #[.int .i64 s.al, .int .i64 p, .slice A n c] 25)) 25 #[.int .i64 t.al, .int .i64 q, .slice B m d]
  replace hb1 := hb1.ext ((Ext.refl _).alloc (.cells #[.int .i64 t.al, .int .i64 q, .slice B m d] 25))
  have hsz : w.heap.size + 1 + 1 = ((w.alloc (.cells #[.int .i64 s.al, .int .i64 p, .slice A n c] 25)).alloc (.cells #[.int .i64 t.al, .int .i64 q, .slice B m d] 25)).heap.size := by simp
  rw [show (w.alloc (.cells #[.int .i64 s.al, .int .i64 p, .slice A n c] 25)).heap.size = w.heap.size + 1 by simp] at hb2
  generalize (w.alloc (.cells #[.int .i64 s.al, .int .i64 p, .slice A n c] 25)).alloc (.cells #[.int .i64 t.al, .int .i64 q, .slice B m d] 25) = w0 at *
  have Hsz := hide hsz
  clear hsz
  obtain ⟨z, hz⟩ : ∃ z : Nat, Hid (2 ^ q = z) := ⟨_, rfl⟩
  have hz1 : 1 ≤ z := by have := Nat.two_pow_pos q; have := hz.out; omega
  have hz2 : z ≤ 65536 := by rw [← hz.out, show (65536 : Nat) = 2 ^ 16 from rfl]; exact Nat.pow_le_pow_right (by omega) hq
  have CB : ∀ W, Calls Tryd.prog 51 #[.int .i64 q] W fun e w' => e = .returned (.int .i64 (z : Nat)) ∧ W = w' := fun W => by rw [← hz.out]; exact spec_l1Bit q (by omega) W
  have CB' := hide CB
  clear CB
  go_loopw [7, 8] (fun v i wr => ∃ k : Nat, k ≤ p ∧ i = .int .i64 k ∧ wr.ownsRow w0.heap.size 3 1 v k (nats (List.replicate k (z - 1))) ∧ Ext w0 wr) (fun _ i _ => p - (intOf i).toNat)
  case atStart => exact ⟨0, Nat.zero_le _, rfl, by rw [Hsz.out]; exact World.ownsRow_lit w0 #[] 0 (Nat.le_refl _) (by unfold maxLen; omega) rfl, (Ext.refl _).alloc _⟩
  case round =>
    obtain ⟨k, hk, rfl, hown, hext⟩ := hrel
    have e1 := (hb1.ext hext).cell
    have e2 := (hb2.ext hext).cell
    by_cases hlt : k < p
    · have hcast := hide (show ((z : Int) - 1) = ((z - 1 : Nat) : Int) by omega)
      go_wp2_with (first
        | (go_at_call 51; refine (CB'.out _).mono ?_; rintro e w' ⟨rfl, rfl⟩)
        | (at_builtin; refine wpList_push w0 wr rfl _ _ _ rfl 3 _ 1 8 Tryd.underlying48 info_int rfl (by decide) u7 _ _ _ _ rfl rfl hext hown rfl (cells_int _) (by unfold maxLen; omega) (by omega) ?_; intro v' w1 hext1 hown1 hg1 hat1))
      go_roundw
      case rel => exact ⟨k + 1, by omega, by go_num, by rw [hcast.out, show (#[Value.int .i64 ((z - 1 : Nat) : Int)] : Array Value).toList = [Value.int .i64 ((z - 1 : Nat) : Int)] from rfl, replicate_push] at hown1; exact hown1, by assumption⟩
      case measure => simp [intOf]; omega
    · obtain rfl : p = k := by omega
      obtain ⟨g, c2, rfl, hgb⟩ := own_some hown (by omega)
      have hI := Inv.start false s.edges t.edges p q
      rw [hz.out] at hI
      obtain ⟨w2, rfl⟩ : ∃ w2 : World, w2 = wr := ⟨_, rfl⟩
      generalize List.replicate p (z - 1) = R0 at hown hI
      have hx02 := hext
      have CF : ∀ (W : World) (S : List Nat) (k x : Nat), Ext w0 W → W.ownsRow w0.heap.size 3 1 (.slice (some ⟨g, 0, none⟩) p c2) p (nats S) → (∀ r ∈ S, Sm r) → S.length = p → x < 32 →
          Calls Tryd.prog 52 #[.agg #[.int .i64 s.al, .int .i64 p, .slice A n c], .agg #[.int .i64 t.al, .int .i64 q, .slice B m d], .slice (some ⟨g, 0, none⟩) p c2, .int .i64 k, .int .i64 x] W fun e w' => e = .returned (.bool (s.edges.all (folE t.edges S k x))) ∧ Ext W w' := by
        intro W S k x hW ho hs hl hx
        rw [← hsp, ← htq]
        exact spec_l15Follows (HS.out W (hext0.trans hW)) (HT.out W (hext0.trans hW)) (Reads.of_own ho) hs Hf.out Hg.out hp hq hx (by omega)
      have CK : ∀ (W : World) (S : List Nat) (k x : Nat), Ext w0 W → W.ownsRow w0.heap.size 3 1 (.slice (some ⟨g, 0, none⟩) p c2) p (nats S) → (∀ r ∈ S, Sm r) → S.length = p → k < 32 →
          Calls Tryd.prog 53 #[.agg #[.int .i64 s.al, .int .i64 p, .slice A n c], .agg #[.int .i64 t.al, .int .i64 q, .slice B m d], .slice (some ⟨g, 0, none⟩) p c2, .int .i64 k, .int .i64 x] W fun e w' => e = .returned (.bool (t.edges.all (bakE p s.edges S k x))) ∧ Ext W w' := by
        intro W S k x hW ho hs hl hk
        rw [← hsp, ← htq]
        exact spec_l15Backs (HS.out W (hext0.trans hW)) (HT.out W (hext0.trans hW)) (Reads.of_own ho) hs hsp Hf.out Hg.out hp hq hk hl
      have CF' := hide CF
      have CK' := hide CK
      clear CF CK hlt hk
      go_wp2_with fail
      clear e1 e2
      go_loopw [9] (fun v wr => ∃ (b : Bool) (R : List Nat), v = .bool b ∧ wr.ownsRow w0.heap.size 3 1 (.slice (some ⟨g, 0, none⟩) p c2) p (nats R) ∧ Inv false s.edges t.edges p q R ∧ Ext w0 wr ∧ Hid (b = false → ∀ i j, rel R i j → Ok false s.edges t.edges (rel R) i j)) (fun v wr => boolN v + 2 * sumAt wr g p)
      case atStart => exact ⟨true, R0, rfl, hown, hI, hext, fun h => by cases h⟩
      case round =>
        clear hown hI hext
        obtain ⟨b, R, rfl, hown, hI, hext, hfin⟩ := hrel
        have hsum := hide (sumAt_eq hown)
        cases b
        · have Hfin := hide (hfin rfl)
          clear hfin
          go_wp2_with fail
          go_ret
          exact ⟨g, c2, R, rfl, own_less hown hext0.size, ⟨hI, Hfin.out⟩, hext0.trans hext⟩
        · clear hfin
          go_wp2_with fail
          go_loopw [9, 10] (fun v i wr => ∃ k : Nat, k ≤ p ∧ i = .int .i64 k ∧ ∃ (ch : Bool) (S : List Nat), v = .bool ch ∧ wr.ownsRow w0.heap.size 3 1 (.slice (some ⟨g, 0, none⟩) p c2) p (nats S) ∧ Inv false s.edges t.edges p q S ∧ Ext w0 wr
            ∧ Hid (ch = false → S = R ∧ ∀ i j, i < k → rel R i j → Ok false s.edges t.edges (rel R) i j) ∧ Hid (ch = true → S.sum < R.sum)) (fun _ i _ => p - (intOf i).toNat)
          case atStart => exact ⟨0, Nat.zero_le _, rfl, false, R, rfl, hown, hI, hext, fun _ => ⟨rfl, fun i j hi => by omega⟩, fun h => by cases h⟩
          case round =>
            clear hown hI hext
            obtain ⟨k, hk, rfl, ch, S, rfl, hown, hI, hext, hno, hyes⟩ := hrel
            have e1 := (hb1.ext hext).cell
            by_cases hlt : k < p
            · go_wp2_with fail
              clear e1
              go_loopw [9, 11] (fun v i wr => ∃ x : Nat, x ≤ q ∧ i = .int .i64 x ∧ ∃ (ch : Bool) (S : List Nat), v = .bool ch ∧ wr.ownsRow w0.heap.size 3 1 (.slice (some ⟨g, 0, none⟩) p c2) p (nats S) ∧ Inv false s.edges t.edges p q S ∧ Ext w0 wr
                ∧ Hid (ch = false → S = R ∧ (∀ i j, i < k → rel R i j → Ok false s.edges t.edges (rel R) i j) ∧ ∀ j, j < x → rel R k j → Ok false s.edges t.edges (rel R) k j) ∧ Hid (ch = true → S.sum < R.sum)) (fun _ i _ => q - (intOf i).toNat)
              case atStart => exact ⟨0, Nat.zero_le _, rfl, ch, S, rfl, hown, hI, hext, fun h => ⟨(hno h).1, (hno h).2, fun j hj => by omega⟩, hyes⟩
              case round =>
                clear hown hI hext hno hyes
                obtain ⟨x, hxq, rfl, ch, S, rfl, hown, hI, hext, hno, hyes⟩ := hrel
                have e2 := (hb2.ext hext).cell
                by_cases hlx : x < q
                · have hSl : S.length = p := hI.len
                  have hSm : ∀ r ∈ S, Sm r := fun r hr => Nat.lt_of_lt_of_le (hI.small r hr) (by rw [show (4294967296 : Nat) = 2 ^ 32 from rfl]; exact Nat.pow_le_pow_right (by omega) (by omega))
                  obtain ⟨v, hv⟩ : ∃ v, S[k]? = some v := ⟨_, List.getElem?_eq_getElem (by omega)⟩
                  have hvD : S.getD k 0 = v := by rw [List.getD_eq_getElem?_getD, hv]; rfl
                  have hvs := hSm v (List.mem_of_getElem? hv)
                  have hc0 : wr.cell? ⟨g, k, none⟩ = some (.int .i64 (v : Nat)) := by rw [hown.cellAt k (by omega)]; simp [nats, hv]
                  have Hv := hide hv
                  have HvD := hide hvD
                  have HSm := hide hSm
                  have HSl := hide hSl
                  clear hv hvD hSm hSl
                  have e1 := (hb1.ext hext).cell
                  cases hb1' : v.testBit x
                  · have Hb1 := hide hb1'
                    clear hb1'
                    go_wp2_with (go_at_call 25; refine (spec_l1Has v x hvs _ (by omega)).mono ?_; rw [Hb1.out]; rintro e w' ⟨rfl, rfl⟩)
                    go_roundw
                    case rel => exact ⟨x + 1, by omega, by go_num, ch, S, rfl, hown, hI, hext, fun hch => ⟨(hno hch).1, (hno hch).2.1, fun j hj hr => by
                      rcases Nat.lt_or_ge j x with h1 | h1
                      · exact (hno hch).2.2 j h1 hr
                      · obtain rfl : j = x := by omega
                        have := hr.2
                        rw [← (hno hch).1, HvD.out, Hb1.out] at this
                        cases this⟩, hyes⟩
                    case measure => simp [intOf]; omega
                  · have Hb1 := hide hb1'
                    have Hrel := hide (show rel S k x from ⟨by have := HSl.out; omega, by rw [HvD.out]; exact hb1'⟩)
                    clear hb1'
                    have hCF := hide (CF'.out wr S k x hext hown HSm.out HSl.out (by omega))
                    cases hfo : s.edges.all (folE t.edges S k x)
                    · have Hfo := hide hfo
                      clear hfo
                      have Hnok := hide (show ¬ Ok false s.edges t.edges (rel S) k x from fun h => by have := (ok_false Hf.out Hg.out).1 h; rw [Hfo.out] at this; simp at this)
                      go_wp2_with (first | (go_at_call 25; refine (spec_l1Has v x hvs _ (by omega)).mono ?_; rw [Hb1.out]; rintro e w' ⟨rfl, rfl⟩) | (go_at_call 52; with_reducible refine (hCF.out).mono ?_; rw [Hfo.out]; rintro e w5 ⟨rfl, hx5⟩))
                      have hvb : v.testBit x = true := Hb1.out
                      have hle := Nat.ge_two_pow_of_testBit hvb
                      have hd := hide (hI.drop Hrel.out Hnok.out)
                      have hsd := hide (sum_drop_lt Hrel.out)
                      rw [HvD.out] at hd hsd
                      obtain ⟨y, hy⟩ : ∃ y : Nat, Hid (2 ^ x = y) := ⟨_, rfl⟩
                      have CY := hide (show ∀ W, Calls Tryd.prog 51 #[.int .i64 x] W fun e w' => e = .returned (.int .i64 (y : Nat)) ∧ W = w' from fun W => by rw [← hy.out]; exact spec_l1Bit x (by omega) W)
                      rw [hy.out] at hd hsd hle
                      have hvi : (v : Int) < 4294967296 := by have := hvs.lt; omega
                      have hcast := hide (show ((v : Int) - (y : Int)) = ((v - y : Nat) : Int) by omega)
                      generalize hw8e : w5 = w8
                      have hx8 : Ext wr w8 := by rw [← hw8e]; exact hx5
                      clear hw8e
                      have hown8 := own_ext hown hx8
                      have hst := hown8.stored k (.int .i64 ((v - y : Nat) : Nat))
                      rw [← nats_set] at hst
                      have hc8 : w8.drew.cell? ⟨g, k, none⟩ = some (.int .i64 (v : Nat)) := hx8.cell_some hc0
                      have hc8' : w8.cell? ⟨g, k, none⟩ = some (.int .i64 (v : Nat)) := hc8
                      have hf8 : w8.drew.frozen? ⟨g, k, none⟩ = false := hown8.frozenAt k
                      have hx9 : Ext wr w8.drew := hx8.drew
                      have hst9 : (w8.drew.setCell ⟨g, k, none⟩ (.int .i64 ((v - y : Nat) : Nat))).ownsRow w0.heap.size 3 1 (.slice (some ⟨g, 0, none⟩) p c2) p (nats (S.set k (v - y))) := hst.1
                      have hkp0 : (0 : Int) ≤ (k : Int) := by omega
                      have hkp1 : (k : Int) < (p : Int) := by omega
                      clear hvb hst e1 e2
                      go_still_tail 10, (by kernel_rfl)
                      still_call ((CY.out _).mono fun e w' h => ⟨h.1, h.2.symm⟩)
                      repeat still_step
                      try refine wpStill_nil ?_
                      change wpList _ _ _ _ _ w8.drew
                      generalize w8.drew = w9 at *
                      go_wp2_with fail
                      go_roundw
                      case rel => exact ⟨x + 1, by omega, by go_num, true, S.set k (v - y), rfl, by rw [hcast.out]; exact hst9, hd.out, (hext.trans hx9).setCell (by dsimp only; omega) _, (fun h => by cases h), fun _ => Nat.lt_of_lt_of_le hsd.out (by
                        cases ch
                        · rw [(hno rfl).1]; exact Nat.le_refl _
                        · exact Nat.le_of_lt (hyes rfl))⟩
                      case measure => simp [intOf]; omega
                    · have Hfo := hide hfo
                      clear hfo
                      have Hok := hide ((ok_false Hf.out Hg.out).2 Hfo.out)
                      go_wp2_with (first | (go_at_call 25; refine (spec_l1Has v x hvs _ (by omega)).mono ?_; rw [Hb1.out]; rintro e w' ⟨rfl, rfl⟩) | (go_at_call 52; with_reducible refine (hCF.out).mono ?_; rw [Hfo.out]; rintro e w5 ⟨rfl, hx5⟩))
                      go_roundw
                      case rel => exact ⟨x + 1, by omega, by go_num, ch, S, rfl, own_ext hown hx5, hI, hext.trans hx5, fun hch => ⟨(hno hch).1, (hno hch).2.1, fun j hj hr => by
                        rcases Nat.lt_or_ge j x with h1 | h1
                        · exact (hno hch).2.2 j h1 hr
                        · obtain rfl : j = x := by omega
                          have := Hok.out
                          rw [(hno hch).1] at this
                          exact this⟩, hyes⟩
                      case measure => simp [intOf]; omega
                · obtain rfl : q = x := by omega
                  go_wp2_with fail
                  go_roundw
                  case rel => exact ⟨k + 1, by omega, by go_num, ch, S, rfl, hown, hI, hext, fun hch => ⟨(hno hch).1, fun i j hi hr => by
                    rcases Nat.lt_or_ge i k with h1 | h1
                    · exact (hno hch).2.1 i j h1 hr
                    · obtain rfl : i = k := by omega
                      rw [(hno hch).1] at hI
                      exact (hno hch).2.2 j (rel_lt hI hr).2 hr⟩, hyes⟩
                  case measure => simp [intOf]; omega
            · obtain rfl : p = k := by omega
              cases ch
              · obtain ⟨rfl, hpost⟩ := hno rfl
                have Hpost := hide hpost
                clear hpost hno hyes
                go_wp2_with fail
                go_roundw
                case rel => exact ⟨false, S, rfl, hown, hI, hext, fun _ i j hr => Hpost.out i j (by have := hr.1; have := hI.len; omega) hr⟩
                case measure => rw [sumAt_eq hown, hsum.out]; simp [boolN]
              · have h1 := hide (hyes rfl)
                clear hno hyes
                go_wp2_with fail
                go_roundw
                case rel => exact ⟨true, S, rfl, hown, hI, hext, fun h => by cases h⟩
                case measure =>
                  rw [sumAt_eq hown, hsum.out]
                  have := h1.out
                  simp [boolN]; omega

set_option maxRecDepth 100000 in
theorem spec_l15Relate_true {lo hi lo' hi' : Nat} {A : Option Addr} {n c : Nat} {B : Option Addr} {m d : Nat} {s t : Sys} {p q : Nat} {w : World} (h : SysAt w lo hi A n s) (h' : SysAt w lo' hi' B m t)
    (hsp : s.st = p) (htq : t.st = q) (hp1 : 1 ≤ p) (hp : p ≤ 16) (hq : q ≤ 16) (hf : Few p s.edges) (hg : Few q t.edges) :
    Calls Tryd.prog 26 #[.agg #[.int .i64 s.al, .int .i64 s.st, .slice A n c], .agg #[.int .i64 t.al, .int .i64 t.st, .slice B m d], .bool true] w (RetRel w true s t p q) := by
  have HS := hide (fun W (hW : Ext w W) => h.ext hW)
  have HT := hide (fun W (hW : Ext w W) => h'.ext hW)
  have Hf := hide hf
  have Hg := hide hg
  clear h h' hf hg
  rw [hsp, htq]
  go_enter Tryd.func26, Tryd.ntmps26
  go_wp2_with fail
  have hext0 := ((Ext.refl w).alloc (.cells #[.int .i64 s.al, .int .i64 p, .slice A n c] 25)).alloc (.cells #[.int .i64 t.al, .int .i64 q, .slice B m d] 25)
  have hb1 := Blk.new w 25 #[.int .i64 s.al, .int .i64 p, .slice A n c]
  have hb2 := Blk.new (w.alloc (.cells #[.int .i64 s.al, .int .i64 p, .slice A n c] 25)) 25 #[.int .i64 t.al, .int .i64 q, .slice B m d]
  replace hb1 := hb1.ext ((Ext.refl _).alloc (.cells #[.int .i64 t.al, .int .i64 q, .slice B m d] 25))
  have hsz : w.heap.size + 1 + 1 = ((w.alloc (.cells #[.int .i64 s.al, .int .i64 p, .slice A n c] 25)).alloc (.cells #[.int .i64 t.al, .int .i64 q, .slice B m d] 25)).heap.size := by simp
  rw [show (w.alloc (.cells #[.int .i64 s.al, .int .i64 p, .slice A n c] 25)).heap.size = w.heap.size + 1 by simp] at hb2
  generalize (w.alloc (.cells #[.int .i64 s.al, .int .i64 p, .slice A n c] 25)).alloc (.cells #[.int .i64 t.al, .int .i64 q, .slice B m d] 25) = w0 at *
  have Hsz := hide hsz
  clear hsz
  obtain ⟨z, hz⟩ : ∃ z : Nat, Hid (2 ^ q = z) := ⟨_, rfl⟩
  have hz1 : 1 ≤ z := by have := Nat.two_pow_pos q; have := hz.out; omega
  have hz2 : z ≤ 65536 := by rw [← hz.out, show (65536 : Nat) = 2 ^ 16 from rfl]; exact Nat.pow_le_pow_right (by omega) hq
  have CB : ∀ W, Calls Tryd.prog 51 #[.int .i64 q] W fun e w' => e = .returned (.int .i64 (z : Nat)) ∧ W = w' := fun W => by rw [← hz.out]; exact spec_l1Bit q (by omega) W
  have CB' := hide CB
  clear CB
  go_loopw [7, 8] (fun v i wr => ∃ k : Nat, k ≤ p ∧ i = .int .i64 k ∧ wr.ownsRow w0.heap.size 3 1 v k (nats (List.replicate k (z - 1))) ∧ Ext w0 wr) (fun _ i _ => p - (intOf i).toNat)
  case atStart => exact ⟨0, Nat.zero_le _, rfl, by rw [Hsz.out]; exact World.ownsRow_lit w0 #[] 0 (Nat.le_refl _) (by unfold maxLen; omega) rfl, (Ext.refl _).alloc _⟩
  case round =>
    obtain ⟨k, hk, rfl, hown, hext⟩ := hrel
    have e1 := (hb1.ext hext).cell
    have e2 := (hb2.ext hext).cell
    by_cases hlt : k < p
    · have hcast := hide (show ((z : Int) - 1) = ((z - 1 : Nat) : Int) by omega)
      go_wp2_with (first
        | (go_at_call 51; refine (CB'.out _).mono ?_; rintro e w' ⟨rfl, rfl⟩)
        | (at_builtin; refine wpList_push w0 wr rfl _ _ _ rfl 3 _ 1 8 Tryd.underlying48 info_int rfl (by decide) u7 _ _ _ _ rfl rfl hext hown rfl (cells_int _) (by unfold maxLen; omega) (by omega) ?_; intro v' w1 hext1 hown1 hg1 hat1))
      go_roundw
      case rel => exact ⟨k + 1, by omega, by go_num, by rw [hcast.out, show (#[Value.int .i64 ((z - 1 : Nat) : Int)] : Array Value).toList = [Value.int .i64 ((z - 1 : Nat) : Int)] from rfl, replicate_push] at hown1; exact hown1, by assumption⟩
      case measure => simp [intOf]; omega
    · obtain rfl : p = k := by omega
      obtain ⟨g, c2, rfl, hgb⟩ := own_some hown (by omega)
      have hI := Inv.start true s.edges t.edges p q
      rw [hz.out] at hI
      obtain ⟨w2, rfl⟩ : ∃ w2 : World, w2 = wr := ⟨_, rfl⟩
      generalize List.replicate p (z - 1) = R0 at hown hI
      have hx02 := hext
      have CF : ∀ (W : World) (S : List Nat) (k x : Nat), Ext w0 W → W.ownsRow w0.heap.size 3 1 (.slice (some ⟨g, 0, none⟩) p c2) p (nats S) → (∀ r ∈ S, Sm r) → S.length = p → x < 32 →
          Calls Tryd.prog 52 #[.agg #[.int .i64 s.al, .int .i64 p, .slice A n c], .agg #[.int .i64 t.al, .int .i64 q, .slice B m d], .slice (some ⟨g, 0, none⟩) p c2, .int .i64 k, .int .i64 x] W fun e w' => e = .returned (.bool (s.edges.all (folE t.edges S k x))) ∧ Ext W w' := by
        intro W S k x hW ho hs hl hx
        rw [← hsp, ← htq]
        exact spec_l15Follows (HS.out W (hext0.trans hW)) (HT.out W (hext0.trans hW)) (Reads.of_own ho) hs Hf.out Hg.out hp hq hx (by omega)
      have CK : ∀ (W : World) (S : List Nat) (k x : Nat), Ext w0 W → W.ownsRow w0.heap.size 3 1 (.slice (some ⟨g, 0, none⟩) p c2) p (nats S) → (∀ r ∈ S, Sm r) → S.length = p → k < 32 →
          Calls Tryd.prog 53 #[.agg #[.int .i64 s.al, .int .i64 p, .slice A n c], .agg #[.int .i64 t.al, .int .i64 q, .slice B m d], .slice (some ⟨g, 0, none⟩) p c2, .int .i64 k, .int .i64 x] W fun e w' => e = .returned (.bool (t.edges.all (bakE p s.edges S k x))) ∧ Ext W w' := by
        intro W S k x hW ho hs hl hk
        rw [← hsp, ← htq]
        exact spec_l15Backs (HS.out W (hext0.trans hW)) (HT.out W (hext0.trans hW)) (Reads.of_own ho) hs hsp Hf.out Hg.out hp hq hk hl
      have CF' := hide CF
      have CK' := hide CK
      clear CF CK hlt hk
      go_wp2_with fail
      clear e1 e2
      go_loopw [9] (fun v wr => ∃ (b : Bool) (R : List Nat), v = .bool b ∧ wr.ownsRow w0.heap.size 3 1 (.slice (some ⟨g, 0, none⟩) p c2) p (nats R) ∧ Inv true s.edges t.edges p q R ∧ Ext w0 wr ∧ Hid (b = false → ∀ i j, rel R i j → Ok true s.edges t.edges (rel R) i j)) (fun v wr => boolN v + 2 * sumAt wr g p)
      case atStart => exact ⟨true, R0, rfl, hown, hI, hext, fun h => by cases h⟩
      case round =>
        clear hown hI hext
        obtain ⟨b, R, rfl, hown, hI, hext, hfin⟩ := hrel
        have hsum := hide (sumAt_eq hown)
        cases b
        · have Hfin := hide (hfin rfl)
          clear hfin
          go_wp2_with fail
          go_ret
          exact ⟨g, c2, R, rfl, own_less hown hext0.size, ⟨hI, Hfin.out⟩, hext0.trans hext⟩
        · clear hfin
          go_wp2_with fail
          go_loopw [9, 10] (fun v i wr => ∃ k : Nat, k ≤ p ∧ i = .int .i64 k ∧ ∃ (ch : Bool) (S : List Nat), v = .bool ch ∧ wr.ownsRow w0.heap.size 3 1 (.slice (some ⟨g, 0, none⟩) p c2) p (nats S) ∧ Inv true s.edges t.edges p q S ∧ Ext w0 wr
            ∧ Hid (ch = false → S = R ∧ ∀ i j, i < k → rel R i j → Ok true s.edges t.edges (rel R) i j) ∧ Hid (ch = true → S.sum < R.sum)) (fun _ i _ => p - (intOf i).toNat)
          case atStart => exact ⟨0, Nat.zero_le _, rfl, false, R, rfl, hown, hI, hext, fun _ => ⟨rfl, fun i j hi => by omega⟩, fun h => by cases h⟩
          case round =>
            clear hown hI hext
            obtain ⟨k, hk, rfl, ch, S, rfl, hown, hI, hext, hno, hyes⟩ := hrel
            have e1 := (hb1.ext hext).cell
            by_cases hlt : k < p
            · go_wp2_with fail
              clear e1
              go_loopw [9, 11] (fun v i wr => ∃ x : Nat, x ≤ q ∧ i = .int .i64 x ∧ ∃ (ch : Bool) (S : List Nat), v = .bool ch ∧ wr.ownsRow w0.heap.size 3 1 (.slice (some ⟨g, 0, none⟩) p c2) p (nats S) ∧ Inv true s.edges t.edges p q S ∧ Ext w0 wr
                ∧ Hid (ch = false → S = R ∧ (∀ i j, i < k → rel R i j → Ok true s.edges t.edges (rel R) i j) ∧ ∀ j, j < x → rel R k j → Ok true s.edges t.edges (rel R) k j) ∧ Hid (ch = true → S.sum < R.sum)) (fun _ i _ => q - (intOf i).toNat)
              case atStart => exact ⟨0, Nat.zero_le _, rfl, ch, S, rfl, hown, hI, hext, fun h => ⟨(hno h).1, (hno h).2, fun j hj => by omega⟩, hyes⟩
              case round =>
                clear hown hI hext hno hyes
                obtain ⟨x, hxq, rfl, ch, S, rfl, hown, hI, hext, hno, hyes⟩ := hrel
                have e2 := (hb2.ext hext).cell
                by_cases hlx : x < q
                · have hSl : S.length = p := hI.len
                  have hSm : ∀ r ∈ S, Sm r := fun r hr => Nat.lt_of_lt_of_le (hI.small r hr) (by rw [show (4294967296 : Nat) = 2 ^ 32 from rfl]; exact Nat.pow_le_pow_right (by omega) (by omega))
                  obtain ⟨v, hv⟩ : ∃ v, S[k]? = some v := ⟨_, List.getElem?_eq_getElem (by omega)⟩
                  have hvD : S.getD k 0 = v := by rw [List.getD_eq_getElem?_getD, hv]; rfl
                  have hvs := hSm v (List.mem_of_getElem? hv)
                  have hc0 : wr.cell? ⟨g, k, none⟩ = some (.int .i64 (v : Nat)) := by rw [hown.cellAt k (by omega)]; simp [nats, hv]
                  have Hv := hide hv
                  have HvD := hide hvD
                  have HSm := hide hSm
                  have HSl := hide hSl
                  clear hv hvD hSm hSl
                  have e1 := (hb1.ext hext).cell
                  cases hb1' : v.testBit x
                  · have Hb1 := hide hb1'
                    clear hb1'
                    go_wp2_with (go_at_call 25; refine (spec_l1Has v x hvs _ (by omega)).mono ?_; rw [Hb1.out]; rintro e w' ⟨rfl, rfl⟩)
                    go_roundw
                    case rel => exact ⟨x + 1, by omega, by go_num, ch, S, rfl, hown, hI, hext, fun hch => ⟨(hno hch).1, (hno hch).2.1, fun j hj hr => by
                      rcases Nat.lt_or_ge j x with h1 | h1
                      · exact (hno hch).2.2 j h1 hr
                      · obtain rfl : j = x := by omega
                        have := hr.2
                        rw [← (hno hch).1, HvD.out, Hb1.out] at this
                        cases this⟩, hyes⟩
                    case measure => simp [intOf]; omega
                  · have Hb1 := hide hb1'
                    have Hrel := hide (show rel S k x from ⟨by have := HSl.out; omega, by rw [HvD.out]; exact hb1'⟩)
                    clear hb1'
                    have hCF := hide (CF'.out wr S k x hext hown HSm.out HSl.out (by omega))
                    cases hfo : s.edges.all (folE t.edges S k x)
                    · have Hfo := hide hfo
                      clear hfo
                      have Hnok := hide (show ¬ Ok true s.edges t.edges (rel S) k x from fun h => by have := (ok_true Hf.out Hg.out).1 h; rw [Hfo.out] at this; simp at this)
                      go_wp2_with (first | (go_at_call 25; refine (spec_l1Has v x hvs _ (by omega)).mono ?_; rw [Hb1.out]; rintro e w' ⟨rfl, rfl⟩) | (go_at_call 52; with_reducible refine (hCF.out).mono ?_; rw [Hfo.out]; rintro e w5 ⟨rfl, hx5⟩))
                      have hvb : v.testBit x = true := Hb1.out
                      have hle := Nat.ge_two_pow_of_testBit hvb
                      have hd := hide (hI.drop Hrel.out Hnok.out)
                      have hsd := hide (sum_drop_lt Hrel.out)
                      rw [HvD.out] at hd hsd
                      obtain ⟨y, hy⟩ : ∃ y : Nat, Hid (2 ^ x = y) := ⟨_, rfl⟩
                      have CY := hide (show ∀ W, Calls Tryd.prog 51 #[.int .i64 x] W fun e w' => e = .returned (.int .i64 (y : Nat)) ∧ W = w' from fun W => by rw [← hy.out]; exact spec_l1Bit x (by omega) W)
                      rw [hy.out] at hd hsd hle
                      have hvi : (v : Int) < 4294967296 := by have := hvs.lt; omega
                      have hcast := hide (show ((v : Int) - (y : Int)) = ((v - y : Nat) : Int) by omega)
                      generalize hw8e : w5 = w8
                      have hx8 : Ext wr w8 := by rw [← hw8e]; exact hx5
                      clear hw8e
                      have hown8 := own_ext hown hx8
                      have hst := hown8.stored k (.int .i64 ((v - y : Nat) : Nat))
                      rw [← nats_set] at hst
                      have hc8 : w8.drew.cell? ⟨g, k, none⟩ = some (.int .i64 (v : Nat)) := hx8.cell_some hc0
                      have hc8' : w8.cell? ⟨g, k, none⟩ = some (.int .i64 (v : Nat)) := hc8
                      have hf8 : w8.drew.frozen? ⟨g, k, none⟩ = false := hown8.frozenAt k
                      have hx9 : Ext wr w8.drew := hx8.drew
                      have hst9 : (w8.drew.setCell ⟨g, k, none⟩ (.int .i64 ((v - y : Nat) : Nat))).ownsRow w0.heap.size 3 1 (.slice (some ⟨g, 0, none⟩) p c2) p (nats (S.set k (v - y))) := hst.1
                      have hkp0 : (0 : Int) ≤ (k : Int) := by omega
                      have hkp1 : (k : Int) < (p : Int) := by omega
                      clear hvb hst e1 e2
                      go_still_tail 10, (by kernel_rfl)
                      still_call ((CY.out _).mono fun e w' h => ⟨h.1, h.2.symm⟩)
                      repeat still_step
                      try refine wpStill_nil ?_
                      change wpList _ _ _ _ _ w8.drew
                      generalize w8.drew = w9 at *
                      go_wp2_with fail
                      go_roundw
                      case rel => exact ⟨x + 1, by omega, by go_num, true, S.set k (v - y), rfl, by rw [hcast.out]; exact hst9, hd.out, (hext.trans hx9).setCell (by dsimp only; omega) _, (fun h => by cases h), fun _ => Nat.lt_of_lt_of_le hsd.out (by
                        cases ch
                        · rw [(hno rfl).1]; exact Nat.le_refl _
                        · exact Nat.le_of_lt (hyes rfl))⟩
                      case measure => simp [intOf]; omega
                    · have Hfo := hide hfo
                      clear hfo
                      cases hbk : t.edges.all (bakE p s.edges S k x)
                      · have Hbk := hide hbk
                        clear hbk
                        have Hnok := hide (show ¬ Ok true s.edges t.edges (rel S) k x from fun h => by have := (ok_true Hf.out Hg.out).1 h; rw [Hbk.out] at this; simp at this)
                        go_wp2_with (first | (go_at_call 25; refine (spec_l1Has v x hvs _ (by omega)).mono ?_; rw [Hb1.out]; rintro e w' ⟨rfl, rfl⟩) | (go_at_call 52; with_reducible refine (hCF.out).mono ?_; rw [Hfo.out]; rintro e w5 ⟨rfl, hx5⟩; have e15 := (hb1.ext (hext.trans hx5)).cell; have e25 := (hb2.ext (hext.trans hx5)).cell) | (go_at_call 53; refine (CK'.out _ S k x (hext.trans hx5) (own_ext hown hx5) HSm.out HSl.out (by omega)).mono ?_; rw [Hbk.out]; rintro e w6 ⟨rfl, hx6⟩))
                        clear e15 e25
                        have hvb : v.testBit x = true := Hb1.out
                        have hle := Nat.ge_two_pow_of_testBit hvb
                        have hd := hide (hI.drop Hrel.out Hnok.out)
                        have hsd := hide (sum_drop_lt Hrel.out)
                        rw [HvD.out] at hd hsd
                        obtain ⟨y, hy⟩ : ∃ y : Nat, Hid (2 ^ x = y) := ⟨_, rfl⟩
                        have CY := hide (show ∀ W, Calls Tryd.prog 51 #[.int .i64 x] W fun e w' => e = .returned (.int .i64 (y : Nat)) ∧ W = w' from fun W => by rw [← hy.out]; exact spec_l1Bit x (by omega) W)
                        rw [hy.out] at hd hsd hle
                        have hvi : (v : Int) < 4294967296 := by have := hvs.lt; omega
                        have hcast := hide (show ((v : Int) - (y : Int)) = ((v - y : Nat) : Int) by omega)
                        generalize hw8e : w6 = w8
                        have hx8 : Ext wr w8 := by rw [← hw8e]; exact (hx5.trans hx6)
                        clear hw8e
                        have hown8 := own_ext hown hx8
                        have hst := hown8.stored k (.int .i64 ((v - y : Nat) : Nat))
                        rw [← nats_set] at hst
                        have hc8 : w8.drew.cell? ⟨g, k, none⟩ = some (.int .i64 (v : Nat)) := hx8.cell_some hc0
                        have hc8' : w8.cell? ⟨g, k, none⟩ = some (.int .i64 (v : Nat)) := hc8
                        have hf8 : w8.drew.frozen? ⟨g, k, none⟩ = false := hown8.frozenAt k
                        have hx9 : Ext wr w8.drew := hx8.drew
                        have hst9 : (w8.drew.setCell ⟨g, k, none⟩ (.int .i64 ((v - y : Nat) : Nat))).ownsRow w0.heap.size 3 1 (.slice (some ⟨g, 0, none⟩) p c2) p (nats (S.set k (v - y))) := hst.1
                        have hkp0 : (0 : Int) ≤ (k : Int) := by omega
                        have hkp1 : (k : Int) < (p : Int) := by omega
                        clear hvb hst e1 e2
                        go_still_tail 10, (by kernel_rfl)
                        still_call ((CY.out _).mono fun e w' h => ⟨h.1, h.2.symm⟩)
                        repeat still_step
                        try refine wpStill_nil ?_
                        change wpList _ _ _ _ _ w8.drew
                        generalize w8.drew = w9 at *
                        go_wp2_with fail
                        go_roundw
                        case rel => exact ⟨x + 1, by omega, by go_num, true, S.set k (v - y), rfl, by rw [hcast.out]; exact hst9, hd.out, (hext.trans hx9).setCell (by dsimp only; omega) _, (fun h => by cases h), fun _ => Nat.lt_of_lt_of_le hsd.out (by
                          cases ch
                          · rw [(hno rfl).1]; exact Nat.le_refl _
                          · exact Nat.le_of_lt (hyes rfl))⟩
                        case measure => simp [intOf]; omega
                      · have Hbk := hide hbk
                        clear hbk
                        have Hok := hide ((ok_true Hf.out Hg.out).2 ⟨Hfo.out, Hbk.out⟩)
                        go_wp2_with (first | (go_at_call 25; refine (spec_l1Has v x hvs _ (by omega)).mono ?_; rw [Hb1.out]; rintro e w' ⟨rfl, rfl⟩) | (go_at_call 52; with_reducible refine (hCF.out).mono ?_; rw [Hfo.out]; rintro e w5 ⟨rfl, hx5⟩; have e15 := (hb1.ext (hext.trans hx5)).cell; have e25 := (hb2.ext (hext.trans hx5)).cell) | (go_at_call 53; refine (CK'.out _ S k x (hext.trans hx5) (own_ext hown hx5) HSm.out HSl.out (by omega)).mono ?_; rw [Hbk.out]; rintro e w6 ⟨rfl, hx6⟩))
                        go_roundw
                        case rel => exact ⟨x + 1, by omega, by go_num, ch, S, rfl, own_ext hown (hx5.trans hx6), hI, hext.trans (hx5.trans hx6), fun hch => ⟨(hno hch).1, (hno hch).2.1, fun j hj hr => by
                          rcases Nat.lt_or_ge j x with h1 | h1
                          · exact (hno hch).2.2 j h1 hr
                          · obtain rfl : j = x := by omega
                            have := Hok.out
                            rw [(hno hch).1] at this
                            exact this⟩, hyes⟩
                        case measure => simp [intOf]; omega
                · obtain rfl : q = x := by omega
                  go_wp2_with fail
                  go_roundw
                  case rel => exact ⟨k + 1, by omega, by go_num, ch, S, rfl, hown, hI, hext, fun hch => ⟨(hno hch).1, fun i j hi hr => by
                    rcases Nat.lt_or_ge i k with h1 | h1
                    · exact (hno hch).2.1 i j h1 hr
                    · obtain rfl : i = k := by omega
                      rw [(hno hch).1] at hI
                      exact (hno hch).2.2 j (rel_lt hI hr).2 hr⟩, hyes⟩
                  case measure => simp [intOf]; omega
            · obtain rfl : p = k := by omega
              cases ch
              · obtain ⟨rfl, hpost⟩ := hno rfl
                have Hpost := hide hpost
                clear hpost hno hyes
                go_wp2_with fail
                go_roundw
                case rel => exact ⟨false, S, rfl, hown, hI, hext, fun _ i j hr => Hpost.out i j (by have := hr.1; have := hI.len; omega) hr⟩
                case measure => rw [sumAt_eq hown, hsum.out]; simp [boolN]
              · have h1 := hide (hyes rfl)
                clear hno hyes
                go_wp2_with fail
                go_roundw
                case rel => exact ⟨true, S, rfl, hown, hI, hext, fun h => by cases h⟩
                case measure =>
                  rw [sumAt_eq hown, hsum.out]
                  have := h1.out
                  simp [boolN]; omega

theorem spec_l15Relate {both : Bool} {lo hi lo' hi' : Nat} {A : Option Addr} {n c : Nat} {B : Option Addr} {m d : Nat} {s t : Sys} {p q : Nat} {w : World} (h : SysAt w lo hi A n s) (h' : SysAt w lo' hi' B m t)
    (hsp : s.st = p) (htq : t.st = q) (hp1 : 1 ≤ p) (hp : p ≤ 16) (hq : q ≤ 16) (hf : Few p s.edges) (hg : Few q t.edges) :
    Calls Tryd.prog 26 #[.agg #[.int .i64 s.al, .int .i64 s.st, .slice A n c], .agg #[.int .i64 t.al, .int .i64 t.st, .slice B m d], .bool both] w (RetRel w both s t p q) := by
  cases both
  · exact spec_l15Relate_false h h' hsp htq hp1 hp hq hf hg
  · exact spec_l15Relate_true h h' hsp htq hp1 hp hq hf hg
end Go.Proofs.YtcmgkekaeafgaaaDoor

namespace Go.Proofs.YtcmgkekaeafgaaaDoor
open Go Go.RowKit
set_option maxHeartbeats 400000

/-- The greatest relation. -/
noncomputable def gfp (both : Bool) (s t : Sys) : List Nat := Classical.epsilon (Gfp both s.edges t.edges s.st.toNat t.st.toNat)
theorem gfp_eq {both : Bool} {s t : Sys} {p q : Nat} {R : List Nat} (hp : s.st = p) (hq : t.st = q) (h : Gfp both s.edges t.edges p q R) : R = gfp both s t := by
  have e1 : s.st.toNat = p := by rw [hp]; rfl
  have e2 : t.st.toNat = q := by rw [hq]; rfl
  have h' : Gfp both s.edges t.edges s.st.toNat t.st.toNat R := by rw [e1, e2]; exact h
  exact h'.unique (Classical.epsilon_spec ⟨R, h'⟩)
theorem exists_bits (n : Nat) (P : Nat → Prop) : ∃ a, a < 2 ^ n ∧ ∀ j, a.testBit j = true ↔ j < n ∧ P j := by
  induction n with
  | zero => exact ⟨0, by simp, fun j => by simp⟩
  | succ n ih =>
    obtain ⟨a, ha, hj⟩ := ih
    by_cases hp : P n
    · refine ⟨2 ^ n * 1 + a, by rw [Nat.pow_succ]; omega, fun j => ?_⟩
      rw [Nat.testBit_two_pow_mul_add _ ha]
      by_cases h : j < n
      · rw [if_pos h, hj]
        exact ⟨fun x => ⟨by omega, x.2⟩, fun x => ⟨h, x.2⟩⟩
      · rw [if_neg h]
        by_cases e : j = n
        · subst e; simp [hp]
        · constructor
          · intro x
            obtain ⟨d, hd⟩ : ∃ d, j - n = d + 1 := ⟨j - n - 1, by omega⟩
            have h1 : (1 : Nat).testBit (d + 1) = false := by rw [Nat.testBit_succ]; exact Nat.zero_testBit d
            rw [hd, h1] at x
            cases x
          · intro x; omega
    · refine ⟨a, by rw [Nat.pow_succ]; omega, fun j => ?_⟩
      rw [hj]
      constructor
      · intro x; exact ⟨by omega, x.2⟩
      · rintro ⟨h1, h2⟩
        refine ⟨?_, h2⟩
        rcases Nat.lt_or_ge j n with h | h
        · exact h
        · obtain rfl : j = n := by omega
          exact absurd h2 hp
theorem gfp_exists (both : Bool) (es es' : List Edg) (m n : Nat) : ∃ R, Gfp both es es' m n R := by
  have hx : ∀ i, ∃ a, a < 2 ^ n ∧ ∀ j, a.testBit j = true ↔ j < n ∧ ∃ X, Post both es es' m n X ∧ X i j := fun i => exists_bits n _
  obtain ⟨f, hf⟩ : ∃ f : Nat → Nat, ∀ i, f i < 2 ^ n ∧ ∀ j, (f i).testBit j = true ↔ j < n ∧ ∃ X, Post both es es' m n X ∧ X i j := ⟨fun i => Classical.choose (hx i), fun i => Classical.choose_spec (hx i)⟩
  have hr : ∀ i j, rel ((List.range m).map f) i j ↔ i < m ∧ j < n ∧ ∃ X, Post both es es' m n X ∧ X i j := by
    intro i j
    unfold rel
    rw [List.length_map, List.length_range]
    constructor
    · rintro ⟨h1, h2⟩
      rw [List.getD_eq_getElem?_getD, List.getElem?_map, List.getElem?_range h1] at h2
      exact ⟨h1, ((hf i).2 j).1 h2⟩
    · rintro ⟨h1, h2⟩
      refine ⟨h1, ?_⟩
      rw [List.getD_eq_getElem?_getD, List.getElem?_map, List.getElem?_range h1]
      exact ((hf i).2 j).2 h2
  refine ⟨(List.range m).map f, ⟨by simp, fun r hr => ?_, fun X hX i j hx => (hr i j).2 ⟨(hX i j hx).1, (hX i j hx).2.1, X, hX, hx⟩⟩, fun i j h => ?_⟩
  · obtain ⟨i, _, rfl⟩ := List.mem_map.1 hr
    exact (hf i).1
  · obtain ⟨h1, h2, X, hX, hx⟩ := (hr i j).1 h
    exact (hX i j hx).2.2.mono fun a b hab => (hr a b).2 ⟨(hX a b hab).1, (hX a b hab).2.1, X, hX, hab⟩
theorem gfp_spec (both : Bool) (s t : Sys) : Gfp both s.edges t.edges s.st.toNat t.st.toNat (gfp both s t) := Classical.epsilon_spec (gfp_exists both s.edges t.edges s.st.toNat t.st.toNat)
theorem valid_few {s : Sys} (h : sysValid s = true) : ∃ p : Nat, s.st = p ∧ 1 ≤ p ∧ p ≤ 16 ∧ Few p s.edges := by
  simp only [sysValid, Bool.and_eq_true, decide_eq_true_eq, List.all_eq_true, List.mem_range] at h
  obtain ⟨_, ⟨h1, h2⟩, h3⟩ := h
  refine ⟨s.st.toNat, by omega, by omega, by omega, fun e he => ?_⟩
  obtain ⟨k, hk⟩ := List.getElem?_of_mem he
  have := h3 k (List.getElem?_eq_some_iff.1 hk).1
  rw [edgeOK, hk] at this
  simp only [Bool.and_eq_true, edgB, decide_eq_true_eq, hasB] at this
  omega
theorem same_valid {s t : Sys} (h : sameB s t = true) : sysValid s = true ∧ sysValid t = true ∧ s.al = t.al := by
  simp only [sameB, Bool.and_eq_true, beq_iff_eq] at h
  exact ⟨h.1, h.2.1, h.2.2⟩
theorem gfp_small {both : Bool} {s t : Sys} {p q : Nat} {R : List Nat} (hq : q ≤ 16) (h : Gfp both s.edges t.edges p q R) : ∀ r ∈ R, Sm r := fun r hr => by
  refine Sm.of_lt (Nat.lt_of_lt_of_le (h.small r hr) ?_)
  rw [show (4294967296 : Nat) = 2 ^ 32 from rfl]
  exact Nat.pow_le_pow_right (by omega) (by omega)
/-- The first states are related. -/
noncomputable def simB (both : Bool) (s t : Sys) : Bool := sameB s t && ((gfp both s t).getD 0 0).testBit 0
/-- The relation, or none. -/
noncomputable def simR (s t : Sys) : List Nat := if sameB s t then gfp false s t else []
theorem simR_length (s t : Sys) : (simR s t).length ≤ 16 := by
  unfold simR
  split
  · rename_i h
    obtain ⟨p, hp, _, hp2, _⟩ := valid_few (same_valid h).1
    rw [(gfp_spec false s t).len, hp]
    exact hp2
  · simp
/-- Numbers in new memory. -/
def OwnN (w : World) (base : Nat) (A : Option Addr) (n c : Nat) (R : List Nat) : Prop := n = R.length ∧ w.ownsRow base 3 1 (.slice A n c) n (nats R)
theorem OwnN.ext {w w' : World} {base : Nat} {A : Option Addr} {n c : Nat} {R : List Nat} (h : OwnN w base A n c R) (hb : Ext w w') : OwnN w' base A n c R := ⟨h.1, own_ext h.2 hb⟩
theorem OwnN.less {w : World} {base base' : Nat} {A : Option Addr} {n c : Nat} {R : List Nat} (h : OwnN w base A n c R) (hb : base' ≤ base) : OwnN w base' A n c R := ⟨h.1, own_less h.2 hb⟩
def RetN (w : World) (R : List Nat) (e : Ending) (w' : World) : Prop := ∃ A n c, e = .returned (.slice A n c) ∧ OwnN w' w.heap.size A n c R ∧ Ext w w'

theorem impl_Bisimilar {lo hi lo' hi' : Nat} {A : Option Addr} {n c : Nat} {B : Option Addr} {m d : Nat} {s t : Sys} {w : World} (h : SysAt w lo hi A n s) (h' : SysAt w lo' hi' B m t) (hT : Tab w) :
    Calls Tryd.prog 12 #[.agg #[.int .i64 s.al, .int .i64 s.st, .slice A n c], .agg #[.int .i64 t.al, .int .i64 t.st, .slice B m d]] w fun e w' => e = .returned (.bool (simB true s t)) ∧ Ext w w' := by
  have HS := hide (fun W (hW : Ext w W) => h.ext hW)
  have HT := hide (fun W (hW : Ext w W) => h'.ext hW)
  clear h h'
  cases h1 : sameB s t
  · have H1 := hide h1
    clear h1
    go_enter Tryd.func12, Tryd.ntmps12
    go_wp2_with (go_at_call 21; refine (impl_sameAlphabets (HS.out _ (((Ext.refl _).alloc _).alloc _)) (HT.out _ (((Ext.refl _).alloc _).alloc _))).mono ?_; rw [H1.out]; rintro e w1 ⟨rfl, hx⟩)
    go_ret
    exact ⟨ret_bool (by unfold simB; rw [H1.out]; rfl), (((Ext.refl _).alloc _).alloc _).trans hx⟩
  · obtain ⟨v1, v2, -⟩ := same_valid h1
    obtain ⟨p, hp, hp1, hp2, hf⟩ := valid_few v1
    obtain ⟨q, hq, hq1, hq2, hg⟩ := valid_few v2
    have H1 := hide h1
    have Hf := hide hf
    have Hg := hide hg
    have Hp := hide hp
    have Hq := hide hq
    clear h1 v1 v2 hf hg hp hq
    go_enter Tryd.func12, Tryd.ntmps12
    go_wp2_with fail
    refine (impl_sameAlphabets (HS.out _ (((Ext.refl _).alloc _).alloc _)) (HT.out _ (((Ext.refl _).alloc _).alloc _))).mono ?_
    rw [H1.out]
    rintro e w1 ⟨rfl, hx⟩
    obtain ⟨b1, b2⟩ := ext_blk2 hx
    have c1 := b1.cell
    have c2 := b2.cell
    have hw1 := (((Ext.refl w).alloc _).alloc _).trans hx
    go_wp2_with fail
    refine (impl_greatestRelation (both := true) (HS.out _ hw1) (HT.out _ hw1) (hT.ext hw1) Hp.out Hq.out hp1 hp2 hq2 Hf.out Hg.out).mono ?_
    rintro e w2 ⟨g, R, rfl, hown, hG, hx2⟩
    have hRl := hG.len
    obtain ⟨r, hr⟩ : ∃ r, R[0]? = some r := ⟨_, List.getElem?_eq_getElem (by omega)⟩
    have hrs := gfp_small hq2 hG r (List.mem_of_getElem? hr)
    have hc0 : w2.cell? ⟨g, 0, none⟩ = some (.int .i64 (r : Nat)) := by rw [hown.cellAt 0 (by omega)]; simp [nats, hr]
    have hres := hide (show r.testBit 0 = simB true s t by unfold simB; rw [H1.out, ← gfp_eq Hp.out Hq.out hG, List.getD_eq_getElem?_getD, hr]; rfl)
    have Hhas := hide (show Calls Tryd.prog 22 #[.int .i64 r, .int .i64 (0 : Int)] w2 fun e w' => e = .returned (.bool (simB true s t)) ∧ w2 = w' by rw [← hres.out]; exact (by have := impl_has r (0 : Int) hrs w2; have e : hasB r 0 = r.testBit 0 := (by simp [hasB]); rw [e] at this; exact this))
    clear hr hRl hres
    go_wp2_with (go_at_call 22; refine (Hhas.out).mono ?_; rintro e w3 ⟨rfl, rfl⟩)
    go_ret
    exact ⟨rfl, hw1.trans hx2⟩

theorem impl_Simulates {lo hi lo' hi' : Nat} {A : Option Addr} {n c : Nat} {B : Option Addr} {m d : Nat} {s t : Sys} {w : World} (h : SysAt w lo hi A n s) (h' : SysAt w lo' hi' B m t) (hT : Tab w) :
    Calls Tryd.prog 7 #[.agg #[.int .i64 s.al, .int .i64 s.st, .slice A n c], .agg #[.int .i64 t.al, .int .i64 t.st, .slice B m d]] w fun e w' => e = .returned (.bool (simB false s t)) ∧ Ext w w' := by
  have HS := hide (fun W (hW : Ext w W) => h.ext hW)
  have HT := hide (fun W (hW : Ext w W) => h'.ext hW)
  clear h h'
  cases h1 : sameB s t
  · have H1 := hide h1
    clear h1
    go_enter Tryd.func7, Tryd.ntmps7
    go_wp2_with (go_at_call 21; refine (impl_sameAlphabets (HS.out _ (((Ext.refl _).alloc _).alloc _)) (HT.out _ (((Ext.refl _).alloc _).alloc _))).mono ?_; rw [H1.out]; rintro e w1 ⟨rfl, hx⟩)
    go_ret
    exact ⟨ret_bool (by unfold simB; rw [H1.out]; rfl), (((Ext.refl _).alloc _).alloc _).trans hx⟩
  · obtain ⟨v1, v2, -⟩ := same_valid h1
    obtain ⟨p, hp, hp1, hp2, hf⟩ := valid_few v1
    obtain ⟨q, hq, hq1, hq2, hg⟩ := valid_few v2
    have H1 := hide h1
    have Hf := hide hf
    have Hg := hide hg
    have Hp := hide hp
    have Hq := hide hq
    clear h1 v1 v2 hf hg hp hq
    go_enter Tryd.func7, Tryd.ntmps7
    go_wp2_with fail
    refine (impl_sameAlphabets (HS.out _ (((Ext.refl _).alloc _).alloc _)) (HT.out _ (((Ext.refl _).alloc _).alloc _))).mono ?_
    rw [H1.out]
    rintro e w1 ⟨rfl, hx⟩
    obtain ⟨b1, b2⟩ := ext_blk2 hx
    have c1 := b1.cell
    have c2 := b2.cell
    have hw1 := (((Ext.refl w).alloc _).alloc _).trans hx
    go_wp2_with fail
    refine (impl_greatestRelation (both := false) (HS.out _ hw1) (HT.out _ hw1) (hT.ext hw1) Hp.out Hq.out hp1 hp2 hq2 Hf.out Hg.out).mono ?_
    rintro e w2 ⟨g, R, rfl, hown, hG, hx2⟩
    have hRl := hG.len
    obtain ⟨r, hr⟩ : ∃ r, R[0]? = some r := ⟨_, List.getElem?_eq_getElem (by omega)⟩
    have hrs := gfp_small hq2 hG r (List.mem_of_getElem? hr)
    have hc0 : w2.cell? ⟨g, 0, none⟩ = some (.int .i64 (r : Nat)) := by rw [hown.cellAt 0 (by omega)]; simp [nats, hr]
    have hres := hide (show r.testBit 0 = simB false s t by unfold simB; rw [H1.out, ← gfp_eq Hp.out Hq.out hG, List.getD_eq_getElem?_getD, hr]; rfl)
    have Hhas := hide (show Calls Tryd.prog 22 #[.int .i64 r, .int .i64 (0 : Int)] w2 fun e w' => e = .returned (.bool (simB false s t)) ∧ w2 = w' by rw [← hres.out]; exact (by have := impl_has r (0 : Int) hrs w2; have e : hasB r 0 = r.testBit 0 := (by simp [hasB]); rw [e] at this; exact this))
    clear hr hRl hres
    go_wp2_with (go_at_call 22; refine (Hhas.out).mono ?_; rintro e w3 ⟨rfl, rfl⟩)
    go_ret
    exact ⟨rfl, hw1.trans hx2⟩

theorem spec_Bisimilar {lo hi lo' hi' : Nat} {A : Option Addr} {n c : Nat} {B : Option Addr} {m d : Nat} {s t : Sys} {w : World} (h : SysAt w lo hi A n s) (h' : SysAt w lo' hi' B m t) :
    Calls Tryd.prog 13 #[.agg #[.int .i64 s.al, .int .i64 s.st, .slice A n c], .agg #[.int .i64 t.al, .int .i64 t.st, .slice B m d]] w fun e w' => e = .returned (.bool (simB true s t)) ∧ Ext w w' := by
  have HS := hide (fun W (hW : Ext w W) => h.ext hW)
  have HT := hide (fun W (hW : Ext w W) => h'.ext hW)
  clear h h'
  cases h1 : sameB s t
  · have H1 := hide h1
    clear h1
    go_enter Tryd.func13, Tryd.ntmps13
    go_wp2_with (go_at_call 24; refine (spec_l6Comparable (HS.out _ (((Ext.refl _).alloc _).alloc _)) (HT.out _ (((Ext.refl _).alloc _).alloc _))).mono ?_; rw [H1.out]; rintro e w1 ⟨rfl, hx⟩)
    go_ret
    exact ⟨ret_bool (by unfold simB; rw [H1.out]; rfl), (((Ext.refl _).alloc _).alloc _).trans hx⟩
  · obtain ⟨v1, v2, -⟩ := same_valid h1
    obtain ⟨p, hp, hp1, hp2, hf⟩ := valid_few v1
    obtain ⟨q, hq, hq1, hq2, hg⟩ := valid_few v2
    have H1 := hide h1
    have Hf := hide hf
    have Hg := hide hg
    have Hp := hide hp
    have Hq := hide hq
    clear h1 v1 v2 hf hg hp hq
    go_enter Tryd.func13, Tryd.ntmps13
    go_wp2_with fail
    refine (spec_l6Comparable (HS.out _ (((Ext.refl _).alloc _).alloc _)) (HT.out _ (((Ext.refl _).alloc _).alloc _))).mono ?_
    rw [H1.out]
    rintro e w1 ⟨rfl, hx⟩
    obtain ⟨b1, b2⟩ := ext_blk2 hx
    have c1 := b1.cell
    have c2 := b2.cell
    have hw1 := (((Ext.refl w).alloc _).alloc _).trans hx
    go_wp2_with fail
    refine (spec_l15Relate (both := true) (HS.out _ hw1) (HT.out _ hw1) Hp.out Hq.out hp1 hp2 hq2 Hf.out Hg.out).mono ?_
    rintro e w2 ⟨g, c0, R, rfl, hown, hG, hx2⟩
    have hRl := hG.len
    obtain ⟨r, hr⟩ : ∃ r, R[0]? = some r := ⟨_, List.getElem?_eq_getElem (by omega)⟩
    have hrs := gfp_small hq2 hG r (List.mem_of_getElem? hr)
    have hc0 : w2.cell? ⟨g, 0, none⟩ = some (.int .i64 (r : Nat)) := by rw [hown.cellAt 0 (by omega)]; simp [nats, hr]
    have hres := hide (show r.testBit 0 = simB true s t by unfold simB; rw [H1.out, ← gfp_eq Hp.out Hq.out hG, List.getD_eq_getElem?_getD, hr]; rfl)
    have Hhas := hide (show Calls Tryd.prog 25 #[.int .i64 r, .int .i64 (0 : Int)] w2 fun e w' => e = .returned (.bool (simB true s t)) ∧ w2 = w' by rw [← hres.out]; exact (spec_l1Has r 0 hrs w2 (by omega)))
    clear hr hRl hres
    go_wp2_with (go_at_call 25; refine (Hhas.out).mono ?_; rintro e w3 ⟨rfl, rfl⟩)
    go_ret
    exact ⟨rfl, hw1.trans hx2⟩

theorem spec_Simulates {lo hi lo' hi' : Nat} {A : Option Addr} {n c : Nat} {B : Option Addr} {m d : Nat} {s t : Sys} {w : World} (h : SysAt w lo hi A n s) (h' : SysAt w lo' hi' B m t) :
    Calls Tryd.prog 8 #[.agg #[.int .i64 s.al, .int .i64 s.st, .slice A n c], .agg #[.int .i64 t.al, .int .i64 t.st, .slice B m d]] w fun e w' => e = .returned (.bool (simB false s t)) ∧ Ext w w' := by
  have HS := hide (fun W (hW : Ext w W) => h.ext hW)
  have HT := hide (fun W (hW : Ext w W) => h'.ext hW)
  clear h h'
  cases h1 : sameB s t
  · have H1 := hide h1
    clear h1
    go_enter Tryd.func8, Tryd.ntmps8
    go_wp2_with (go_at_call 24; refine (spec_l6Comparable (HS.out _ (((Ext.refl _).alloc _).alloc _)) (HT.out _ (((Ext.refl _).alloc _).alloc _))).mono ?_; rw [H1.out]; rintro e w1 ⟨rfl, hx⟩)
    go_ret
    exact ⟨ret_bool (by unfold simB; rw [H1.out]; rfl), (((Ext.refl _).alloc _).alloc _).trans hx⟩
  · obtain ⟨v1, v2, -⟩ := same_valid h1
    obtain ⟨p, hp, hp1, hp2, hf⟩ := valid_few v1
    obtain ⟨q, hq, hq1, hq2, hg⟩ := valid_few v2
    have H1 := hide h1
    have Hf := hide hf
    have Hg := hide hg
    have Hp := hide hp
    have Hq := hide hq
    clear h1 v1 v2 hf hg hp hq
    go_enter Tryd.func8, Tryd.ntmps8
    go_wp2_with fail
    refine (spec_l6Comparable (HS.out _ (((Ext.refl _).alloc _).alloc _)) (HT.out _ (((Ext.refl _).alloc _).alloc _))).mono ?_
    rw [H1.out]
    rintro e w1 ⟨rfl, hx⟩
    obtain ⟨b1, b2⟩ := ext_blk2 hx
    have c1 := b1.cell
    have c2 := b2.cell
    have hw1 := (((Ext.refl w).alloc _).alloc _).trans hx
    go_wp2_with fail
    refine (spec_l15Relate (both := false) (HS.out _ hw1) (HT.out _ hw1) Hp.out Hq.out hp1 hp2 hq2 Hf.out Hg.out).mono ?_
    rintro e w2 ⟨g, c0, R, rfl, hown, hG, hx2⟩
    have hRl := hG.len
    obtain ⟨r, hr⟩ : ∃ r, R[0]? = some r := ⟨_, List.getElem?_eq_getElem (by omega)⟩
    have hrs := gfp_small hq2 hG r (List.mem_of_getElem? hr)
    have hc0 : w2.cell? ⟨g, 0, none⟩ = some (.int .i64 (r : Nat)) := by rw [hown.cellAt 0 (by omega)]; simp [nats, hr]
    have hres := hide (show r.testBit 0 = simB false s t by unfold simB; rw [H1.out, ← gfp_eq Hp.out Hq.out hG, List.getD_eq_getElem?_getD, hr]; rfl)
    have Hhas := hide (show Calls Tryd.prog 25 #[.int .i64 r, .int .i64 (0 : Int)] w2 fun e w' => e = .returned (.bool (simB false s t)) ∧ w2 = w' by rw [← hres.out]; exact (spec_l1Has r 0 hrs w2 (by omega)))
    clear hr hRl hres
    go_wp2_with (go_at_call 25; refine (Hhas.out).mono ?_; rintro e w3 ⟨rfl, rfl⟩)
    go_ret
    exact ⟨rfl, hw1.trans hx2⟩

end Go.Proofs.YtcmgkekaeafgaaaDoor
