/- spec.l15Follows, walked. -/
import Derived.Test.YtdeopnjheeekcaaDoorStep
import Derived.Test.YtdeopnjheeekcaaDoorAns
import Derived.BigQuiet
import Derived.Deep.RegionHeld3
namespace Go.Proofs.YtdeopnjheeekcaaDoor
open Go Go.RowKit
set_option maxHeartbeats 2000000

/-- One edge of the first system is no edge from i, or is answered by one from j. -/
def folE (es' : List Edg) (R : List Nat) (i j : Nat) (e : Edg) : Bool := !(e.fr == (i : Int) && (stepB es' (2 ^ j) e.le &&& R.getD e.to.toNat 0 == 0))
theorem spec_l15Follows {lo hi lo' hi' lo2 hi2 : Nat} {A : Option Addr} {n c : Nat} {B : Option Addr} {m d : Nat} {C : Option Addr} {r f : Nat} {s t : Sys} {R : List Nat} {p q i j : Nat} {w : World} (h : SysAt w lo hi A n s) (h' : SysAt w lo' hi' B m t) (hR : Reads w lo2 hi2 1 C r (nats R)) (hs : ∀ r ∈ R, Sm r)
    (hf : Few p s.edges) (hg : Few q t.edges) (_hp : p ≤ 16) (hq : q ≤ 16) (hj : j < 32) (hl : p ≤ R.length) :
    Calls Tryd.prog 37 #[.agg #[.int .i64 s.al, .int .i64 s.st, .slice A n c], .agg #[.int .i64 t.al, .int .i64 t.st, .slice B m d], .slice C r f, .int .i64 i, .int .i64 j] w fun e w' => e = .returned (.bool (s.edges.all (folE t.edges R i j))) ∧ Ext w w' := by
  have hn := h.2.len
  have hL := hide h.1
  have HR := hide (fun W (hW : Ext w W) => h.2.ext hW)
  have HT := hide (fun W (hW : Ext w W) => h'.ext hW)
  have HC := hide (fun W (hW : Ext w W) => hR.ext hW)
  have hrl := hide (show R.length = r by have := hR.length; rw [nats_length] at this; omega)
  have Hf := hide hf
  have Hg := hide hg
  have Hs := hide hs
  have hr' := hR.len
  clear hf hg hs
  go_enter Tryd.func37, Tryd.ntmps37
  go_wp2
  go_loopw [11] (fun i' wr => ∃ k : Nat, k ≤ n ∧ i' = .int .i64 k ∧ Hid ((s.edges.take k).all (folE t.edges R i j) = true) ∧ Ext ((w.alloc (.cells #[.int .i64 s.al, .int .i64 s.st, .slice A n c] 29)).alloc (.cells #[.int .i64 t.al, .int .i64 t.st, .slice B m d] 29)) wr) (fun i' _ => n - (intOf i').toNat)
  case atStart => exact ⟨0, Nat.zero_le _, rfl, rfl, Ext.refl _⟩
  case round =>
    obtain ⟨k, hk, rfl, hall, hexb⟩ := hrel
    have hext := (((Ext.refl w).alloc _).alloc _).trans hexb
    obtain ⟨bk1, bk2⟩ := ext_blk2 hexb
    have cb1 := bk1.cell
    by_cases hlt : k < n
    · obtain ⟨b, o, x, rfl, _, _, hx, c0, c1, c2⟩ := (HR.out wr hext).edge hlt
      obtain ⟨⟨f0, f1⟩, ⟨g0, g1⟩, ⟨t0, t1⟩⟩ := Hf.out x (List.mem_of_getElem? hx.out)
      have Htk := hide (show s.edges.take (k + 1) = s.edges.take k ++ [x] by rw [List.take_add_one, hx.out]; rfl)
      obtain ⟨g, hge⟩ : ∃ g : Nat, x.fr = g := ⟨x.fr.toNat, by omega⟩
      obtain ⟨u, hue⟩ : ∃ u : Nat, x.to = u := ⟨x.to.toNat, by omega⟩
      rw [hge] at c0 f0 f1
      rw [hue] at c2 t0 t1
      obtain ⟨ad, v, hCe, _, _, hv, hvc⟩ := (HC.out wr hext).nat (k := u) (by have := hrl.out; omega)
      have hvs := Hs.out v (List.mem_of_getElem? hv.out)
      have hE := hide (show folE t.edges R i j x = !((g : Int) == (i : Int) && (stepB t.edges (2 ^ j) x.le &&& v == 0)) by unfold folE; rw [hge, hue, List.getD_eq_getElem?_getD, Int.toNat_natCast, hv.out]; rfl)
      have hur : u < r := by have := hrl.out; omega
      have hsm := hide (show Sm (stepB t.edges (2 ^ j) x.le) from Nat.lt_of_lt_of_le (stepB_lt Hg.out _ _) (by rw [show (4294967296 : Nat) = 2 ^ 32 from rfl]; exact Nat.pow_le_pow_right (by omega) (by omega)))
      have hand := hide (bits_and hsm.out hvs)
      by_cases hgi : g = i
      · have hgi' : ((g : Int) == (i : Int)) = true := by simp [hgi]
        subst hCe
        have hvc2 : ∀ W, Ext wr W → W.cell? (ad.add u) = some (.int .i64 (v : Nat)) := fun W hW => hW.cell_some hvc
        have bk2' : ∀ W, Ext wr W → ∀ a, W.cell? ⟨w.heap.size + 1, a, none⟩ = #[Value.int .i64 t.al, .int .i64 t.st, .slice B m d][a]? := fun W hW => (bk2.ext hW).cell
        have Hgi := hide hgi
        clear hgi
        by_cases hz : stepB t.edges (2 ^ j) x.le &&& v = 0
        all_goals
          have hz' := hide hz
          clear hz
        · have hzz : (bits .and .i64 (stepB t.edges (2 ^ j) x.le : Nat) (v : Nat) == 0) = true := by rw [hand.out, hz'.out]; rfl
          go_wp2_with fail
          have hxq := (Ext.refl wr).alloc (.cells #[.int .i64 g, .int .i64 x.le, .int .i64 u] 53)
          have hbq := Blk.new wr 53 #[.int .i64 g, .int .i64 x.le, .int .i64 u]
          generalize wr.alloc (.cells #[.int .i64 g, .int .i64 x.le, .int .i64 u] 53) = wq at *
          have hbq' : ∀ W, Ext wq W → ∀ a, W.cell? ⟨wr.heap.size, a, none⟩ = #[Value.int .i64 g, .int .i64 x.le, .int .i64 u][a]? := fun W hW => (hbq.ext hW).cell
          have hvc3 : ∀ W, Ext wq W → W.cell? (ad.add u) = some (.int .i64 (v : Nat)) := fun W hW => hvc2 W (hxq.trans hW)
          have bk3 : ∀ W, Ext wq W → ∀ a, W.cell? ⟨w.heap.size + 1, a, none⟩ = #[Value.int .i64 t.al, .int .i64 t.st, .slice B m d][a]? := fun W hW => bk2' W (hxq.trans hW)
          have HT2 := hide (fun W (hW : Ext wq W) => HT.out W ((hext.trans hxq).trans hW))
          have hqq := Ext.refl wq
          clear hvc2 bk2' bk2 bk1 cb1 c0 c1 c2
          go_region_held3 (fun W => Ext wq W) (first | assumption | (refine Ext.drew ?_; assumption) | (refine Ext.trans ?_ (by assumption); assumption) | (refine Ext.trans ?_ (by assumption); refine Ext.drew ?_; assumption)) (first
            | (go_at_call 36; with_reducible refine (spec_l1Bit j hj _).mono ?_; rintro e w5 ⟨rfl, rfl⟩)
            | (go_at_call 51; refine (spec_l2Step (HT2.out _ ?_) Hg.out hq (Sm.bit hj)).mono ?_; (first | assumption | (refine Ext.drew ?_; assumption)); rintro e w6 ⟨rfl, hx6⟩))
          go_wp2_with fail
          go_ret
          refine ⟨ret_bool ?_, (hext.trans hxq).trans (by assumption)⟩
          have hF : folE t.edges R i j x = false := by rw [hE.out, hgi', hz'.out]; rfl
          refine (Bool.eq_false_iff.2 fun hc => ?_).symm
          have := List.all_eq_true.1 hc x (List.mem_of_getElem? hx.out)
          rw [hF] at this
          cases this
        · have hzz : (bits .and .i64 (stepB t.edges (2 ^ j) x.le : Nat) (v : Nat) == 0) = false := by rw [hand.out]; have := hz'.out; simp; omega
          go_wp2_with fail
          have hxq := (Ext.refl wr).alloc (.cells #[.int .i64 g, .int .i64 x.le, .int .i64 u] 53)
          have hbq := Blk.new wr 53 #[.int .i64 g, .int .i64 x.le, .int .i64 u]
          generalize wr.alloc (.cells #[.int .i64 g, .int .i64 x.le, .int .i64 u] 53) = wq at *
          have hbq' : ∀ W, Ext wq W → ∀ a, W.cell? ⟨wr.heap.size, a, none⟩ = #[Value.int .i64 g, .int .i64 x.le, .int .i64 u][a]? := fun W hW => (hbq.ext hW).cell
          have hvc3 : ∀ W, Ext wq W → W.cell? (ad.add u) = some (.int .i64 (v : Nat)) := fun W hW => hvc2 W (hxq.trans hW)
          have bk3 : ∀ W, Ext wq W → ∀ a, W.cell? ⟨w.heap.size + 1, a, none⟩ = #[Value.int .i64 t.al, .int .i64 t.st, .slice B m d][a]? := fun W hW => bk2' W (hxq.trans hW)
          have HT2 := hide (fun W (hW : Ext wq W) => HT.out W ((hext.trans hxq).trans hW))
          have hqq := Ext.refl wq
          clear hvc2 bk2' bk2 bk1 cb1 c0 c1 c2
          go_region_held3 (fun W => Ext wq W) (first | assumption | (refine Ext.drew ?_; assumption) | (refine Ext.trans ?_ (by assumption); assumption) | (refine Ext.trans ?_ (by assumption); refine Ext.drew ?_; assumption)) (first
            | (go_at_call 36; with_reducible refine (spec_l1Bit j hj _).mono ?_; rintro e w5 ⟨rfl, rfl⟩)
            | (go_at_call 51; refine (spec_l2Step (HT2.out _ ?_) Hg.out hq (Sm.bit hj)).mono ?_; (first | assumption | (refine Ext.drew ?_; assumption)); rintro e w6 ⟨rfl, hx6⟩))
          go_wp2_with fail
          go_roundw
          case rel => exact ⟨k + 1, by omega, by go_num, by
            have hF : folE t.edges R i j x = true := by
              have hz3 : (stepB t.edges (2 ^ j) x.le &&& v == 0) = false := by have := hz'.out; simpa using this
              rw [hE.out, hgi', hz3]; rfl
            unfold Hid; rw [Htk.out, List.all_append, hall.out]; simp [hF], (hexb.trans hxq).trans (by assumption)⟩
          case measure => simp [intOf]; omega
      · have hgi' : ((g : Int) == (i : Int)) = false := by simp; omega
        have hE2 := hide (show folE t.edges R i j x = true by rw [hE.out, hgi']; rfl)
        subst hCe
        go_wp2_with fail
        have hxq := (Ext.refl wr).alloc (.cells #[.int .i64 g, .int .i64 x.le, .int .i64 u] 53)
        have hbq := (Blk.new wr 53 #[.int .i64 g, .int .i64 x.le, .int .i64 u]).cell
        generalize wr.alloc (.cells #[.int .i64 g, .int .i64 x.le, .int .i64 u] 53) = wq at *
        go_quiet (fail)
        go_wp2_with fail
        go_roundw
        case rel => exact ⟨k + 1, by omega, by go_num, by unfold Hid; rw [Htk.out, List.all_append, hall.out]; simp [hE2.out], (hexb.trans hxq).drewN _⟩
        case measure => simp [intOf]; omega
    · obtain rfl : n = k := by omega
      go_wp2
      go_ret
      have := hall.out
      rw [hL.out, List.take_length] at this
      exact ⟨ret_bool this.symm, hext⟩
end Go.Proofs.YtdeopnjheeekcaaDoor
