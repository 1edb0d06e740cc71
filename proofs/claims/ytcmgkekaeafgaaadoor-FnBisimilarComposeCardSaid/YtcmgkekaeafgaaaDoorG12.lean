/- spec.l15Any, walked. | spec.l6Pair, walked. | spec.l15Pair and what the laws on simulation draw, walked. -/
import Derived.Test.YtcmgkekaeafgaaaDoorG10
namespace Go.Proofs.YtcmgkekaeafgaaaDoor
open Go Go.RowKit
set_option maxHeartbeats 4000000

/-- The variable G holds the system s; the first block behind w0 is the result. -/
structure One (w0 W : World) (R G M : Nat) (s : Sys) (A : Option Addr) (n c : Nat) : Prop where
  z1 : Blk W w0.heap.size 25 #[.int .i64 0, .int .i64 0, .slice none 0 0]
  va : Blk W G 25 #[.int .i64 s.al, .int .i64 s.st, .slice A n c]
  ia : SysIn W R A n s
  rd : Rd W R M
  dr : Dr R w0 W
  hR : R < w0.heap.size
  hG : w0.heap.size + 1 ≤ G
section
variable {w0 W W' : World} {R G M N : Nat} {s : Sys} {A : Option Addr} {n c : Nat}
theorem One.ext (h : One w0 W R G M s A n c) (hx : Ext W W') : One w0 W' R G M s A n c :=
  ⟨h.z1.ext hx, h.va.ext hx, h.ia.ext hx, h.rd.ext hx, h.dr.ext hx, h.hR, h.hG⟩
theorem One.more (h : One w0 W R G M s A n c) (hM : M ≤ N) : One w0 W R G N s A n c := { h with rd := h.rd.more hM }
theorem One.drawn (h : One w0 W R G M s A n c) (hd : Dr R W W') (hr : Rd W' R N) : One w0 W' R G N s A n c :=
  ⟨h.z1.dr hd (by have := h.hR; omega), h.va.dr hd (by have := h.hR; have := h.hG; omega), h.ia.dr hd, hr, h.dr.trans hd, h.hR, h.hG⟩
theorem One.setA {s' : Sys} {A' : Option Addr} {n' c' : Nat} (h : One w0 W R G M s A n c) (hs : SysIn W R A' n' s') :
    One w0 (((W.setCell ⟨G, 0, none⟩ (.int .i64 s'.al)).setCell ⟨G, 1, none⟩ (.int .i64 s'.st)).setCell ⟨G, 2, none⟩ (.slice A' n' c')) R G M s' A' n' c' := by
  have hf := frm_fill W G (.int .i64 s'.al) (.int .i64 s'.st) (.slice A' n' c')
  have h1 := h.hR; have h2 := h.hG
  exact ⟨h.z1.frm hf (by omega), blk_fill h.va rfl _ _ _, hs.far h.va (by decide) hf, h.rd.frm hf (fun k a b => by omega),
    ((h.dr.setNew (p := ⟨G, 0, none⟩) (by dsimp only; omega) _).setNew (p := ⟨G, 1, none⟩) (by dsimp only; omega) _).setNew (p := ⟨G, 2, none⟩) (by dsimp only; omega) _, h1, h2⟩
theorem One.fin {L : Nat} (h : One w0 W R G M s A n c) (hn : n ≤ L ∧ n ≤ c) :
    RetA R M L w0 (.returned (.agg #[.int .i64 s.al, .int .i64 s.st, .slice A n c])) (((W.setCell ⟨w0.heap.size, 0, none⟩ (.int .i64 s.al)).setCell ⟨w0.heap.size, 1, none⟩ (.int .i64 s.st)).setCell ⟨w0.heap.size, 2, none⟩ (.slice A n c)) := by
  have h1 := h.hR
  have hf := frm_fill W w0.heap.size (.int .i64 s.al) (.int .i64 s.st) (.slice A n c)
  exact ⟨s, A, n, c, rfl, h.ia.far h.z1 (by decide) hf, hn, h.rd.frm hf (fun k a b => by omega),
    ((h.dr.setNew (p := ⟨w0.heap.size, 0, none⟩) (Nat.le_refl _) _).setNew (p := ⟨w0.heap.size, 1, none⟩) (Nat.le_refl _) _).setNew (p := ⟨w0.heap.size, 2, none⟩) (Nat.le_refl _) _⟩
end
end Go.Proofs.YtcmgkekaeafgaaaDoor

namespace Go.Proofs.YtcmgkekaeafgaaaDoor
open Go Go.RowKit
set_option maxHeartbeats 4000000

theorem reads_blk {W : World} {g n : Nat} {us : Array Value} {t : TypeId} (l : List Int) (h : Blk W g t us) (hu : us.toList = ints l) (hn : us.size = n) (h63 : n ≤ 1000) : Reads W g (g + 1) 1 (some ⟨g, 0, none⟩) n (ints l) :=
  ⟨by rw [← hu]; simpa using hn, by omega, fun _ => ⟨_, rfl, Nat.le_refl _, by simp, fun j u hj => by
    have := h.cell j
    rw [addr_lit, Nat.zero_add, this]
    rw [← hu] at hj
    simpa using hj⟩⟩
theorem num_blk {R M g n : Nat} {W : World} {us : Array Value} {t : TypeId} (l : List Int) (h : Blk W g t us) (hu : us.toList = ints l) (hn : us.size = n) (h0 : 0 < n) (h63 : n ≤ 1000) (hr : Rd W R M) (hM : M ≤ 1000000000) (hR : R < g) :
    Calls Tryd.prog 58 #[.pointer (some ⟨R, 0, none⟩), .slice (some ⟨g, 0, none⟩) n n] W (RetNum R M l W) :=
  l19Rd_num hr hM (reads_blk l h hu hn h63) hR h0
theorem l2Random_at {R M : Nat} {al st few : Int} {w : World} (h : Rd w R M) (hM : M ≤ 900000000) (ha : 0 ≤ al ∧ al < 64) (hp : 1 ≤ st ∧ st ≤ 16) :
    Calls Tryd.prog 57 #[.pointer (some ⟨R, 0, none⟩), .int .i64 al, .int .i64 st, .int .i64 few] w (RetG R (M + 20000) 20000 w) := by
  obtain ⟨a, rfl⟩ : ∃ a : Nat, al = a := ⟨al.toNat, by omega⟩
  obtain ⟨p, rfl⟩ : ∃ p : Nat, st = p := ⟨st.toNat, by omega⟩
  exact spec_l2Random h hM (by omega) (by omega) (by omega)
theorem edgeCells_take (es : List Edg) (k : Nat) : (edgeCells es).take (k * 3) = edgeCells (es.take k) := by
  induction es generalizing k with
  | nil => simp [edgeCells]
  | cons e r ih =>
    cases k with
    | zero => simp [edgeCells]
    | succ k =>
      rw [show (k + 1) * 3 = k * 3 + 1 + 1 + 1 by omega]
      simp only [edgeCells, List.take_succ_cons, ih]
/-- The first edges alone. -/
theorem SysIn.front {w : World} {R n k : Nat} {A : Option Addr} {al st : Int} {es : List Edg} (h : SysIn w R A n ⟨al, st, es⟩) (hk : k ≤ n) : SysIn w R A k ⟨al, st, es.take k⟩ := by
  have h1 := h.1
  simp only at h1
  refine ⟨by simp; omega, by have := h.2.1; omega, fun h0 => ?_⟩
  obtain ⟨g, o, cs, e, hR, hh, hc⟩ := h.2.2 (by omega)
  refine ⟨g, o, cs, e, hR, hh, fun j u hu => hc j u ?_⟩
  simp only at hu ⊢
  rw [← edgeCells_take] at hu
  rw [List.getElem?_take] at hu
  split at hu
  · exact hu
  · cases hu
theorem RetP.drew {R M L : Nat} {w W : World} {e : Ending} (h : RetP R M L w e W) : RetP R M L w e W.drew := by
  obtain ⟨s, A, n, c, t, B, m, d, h1, h2, h3, h4, h5, h6, h7⟩ := h
  exact ⟨s, A, n, c, t, B, m, d, h1, h2.ext (Ext.refl _).drew, h3.ext (Ext.refl _).drew, h4, h5, h6.ext (Ext.refl _).drew, h7.drew⟩
set_option maxRecDepth 100000 in
theorem spec_l6Pair {R M : Nat} {w : World} (h : Rd w R M) (hM : M ≤ 700000000) :
    Calls Tryd.prog 40 #[.pointer (some ⟨R, 0, none⟩)] w (RetP R (M + 200000) 30000 w) := by
  have hRl := h.lt
  have hx0 : Ext w ((w.alloc (.cells #[.int .i64 0, .int .i64 0, .slice none 0 0] 25)).alloc (.cells #[.int .i64 0, .int .i64 0, .slice none 0 0] 25)) := ((Ext.refl _).alloc _).alloc _
  obtain ⟨bz1, bz2⟩ := ext_blk2 (Ext.refl ((w.alloc (.cells #[.int .i64 0, .int .i64 0, .slice none 0 0] 25)).alloc (.cells #[.int .i64 0, .int .i64 0, .slice none 0 0] 25)))
  have Hx0 := hide hx0
  have Hz1 := hide bz1
  have Hz2 := hide bz2
  clear hx0 bz1 bz2
  go_enter Tryd.func40, Tryd.ntmps40
  go_wp2_with fail
  generalize (w.alloc (.cells #[.int .i64 0, .int .i64 0, .slice none 0 0] 25)).alloc (.cells #[.int .i64 0, .int .i64 0, .slice none 0 0] 25) = w1 at *
  refine (spec_l2Draw (h.ext Hx0.out) (by omega)).mono ?_
  rintro e w2 ⟨s, A, n, c, rfl, hs, hg, hn, hr2, hd2⟩
  have hx3 := (Ext.refl w2).alloc (.cells #[.int .i64 s.al, .int .i64 s.st, .slice A n c] 25)
  have b3 := Blk.new w2 25 #[.int .i64 s.al, .int .i64 s.st, .slice A n c]
  have hw2 := Hx0.out.dr.trans hd2
  have hz2 := hd2.size
  have hzw := Hz2.out.lt
  have z1 := (Hz1.out.dr hd2 (by omega)).ext hx3
  have z2 := (Hz2.out.dr hd2 (by omega)).ext hx3
  have hs3 := hs.ext hx3
  have hr3 := hr2.ext hx3
  have hw3 := hw2.ext hx3
  have c3 := b3.cell
  have Hg := hide hg
  clear hg hd2 hr2 hs hx3 hw2
  go_wp2_with fail
  generalize w2.alloc (.cells #[.int .i64 s.al, .int .i64 s.st, .slice A n c] 25) = w3 at *
  refine (spec_l6Change hr3 (by omega) hs3 Hg.out hn.1 (by omega)).mono ?_
  rintro e w4 ⟨t, B, m, d, rfl, ht, hgt, hm, hr4, hd4⟩
  have hx5 := (Ext.refl w4).alloc (.cells #[.int .i64 t.al, .int .i64 t.st, .slice B m d] 25)
  have b5 := Blk.new w4 25 #[.int .i64 t.al, .int .i64 t.st, .slice B m d]
  have hb34 := b3.dr hd4 (by omega)
  have hw4 := hw3.trans hd4
  have htwo : Two w _ R w2.heap.size w4.heap.size (M + 30010) s A n c t B m d := ⟨(z1.dr hd4 (by omega)).ext hx5, (z2.dr hd4 (by omega)).ext hx5, hb34.ext hx5, (hs3.dr hd4).ext hx5, b5, ht.ext hx5, hr4.ext hx5, hw4.ext hx5, hRl, by omega, hb34.lt⟩
  have Hgt := hide hgt
  clear hgt ht hr4 hd4 hx5 b5 hb34 hw4 c3 hw3 hr3 hs3 z1 z2 b3
  go_wp2_with fail
  generalize w4.alloc (.cells #[.int .i64 t.al, .int .i64 t.st, .slice B m d] 25) = w5 at *
  refine (l19Rd_pick (n := 4) htwo.rd (by omega)).mono ?_
  rintro e w6 ⟨y, rfl, -, -, hr6, hd6⟩
  replace htwo := htwo.drawn hd6 hr6
  clear hr6 hd6 Hz1 Hz2 Hx0
  go_upto_block 0 with fail
  go_cut [] (fun wx => ∃ (t : Sys) (B : Option Addr) (m d N : Nat), Two w wx R w2.heap.size w4.heap.size N s A n c t B m d ∧ Hid (Good t) ∧ (m ≤ 20002 ∧ m ≤ d) ∧ N ≤ M + 100000)
  case first =>
    by_cases hy0 : y = 0
    · subst hy0
      obtain ⟨a0, p0, hal, ha0, -, -, -, -⟩ := Hg.out
      have hala : 0 ≤ s.al ∧ s.al < 64 := by rw [hal]; omega
      have Hala := hide hala
      clear hal hala
      have hRG := htwo.hR
      have hGG := htwo.hG
      have hHH := htwo.hH
      have cG : ∀ W, Dr R w6 W → ∀ q, W.cell? ⟨w2.heap.size, q, none⟩ = #[Value.int .i64 s.al, .int .i64 s.st, .slice A n c][q]? := fun W hW => (htwo.va.dr hW (by omega)).cell
      have hzR := htwo.rd.lt
      go_wp2_with fail
      refine wp_region_tail (fun X => Dr R w6 X) [10] (Ord.app [0, 1, 2, 3, 6] (Ord.two 4 (Ord.two 5 (Ord.of [7, 8, 9, 10]) 7 (Ord.of [5, 8, 9, 10])) 7 (Ord.of [4, 5, 8, 9, 10]))) (by kernel_rfl) rfl (by kernel_rfl) (by kernel_rfl) (by kernel_rfl) (fun _ _ _ _ _ h => h) (by first | assumption | exact (Ext.refl _).drew | exact (Dr.refl _ _).drew | (refine Ext.drew ?_; assumption)) ?_
      repeat (first | (refine tseq_skip rfl rfl (by assumption) ?_; simp only [Act.put, List.setIfInBounds_toArray, List.set_cons_zero, List.set_cons_succ]) | (refine tseq_pure (v := ?_) rfl rfl rfl rfl (fun X => ?_) ?_; rotate_left; (focus (go_simp <;> with_reducible rfl)); simp only [Act.put, List.setIfInBounds_toArray, List.set_cons_zero, List.set_cons_succ]) | (refine tseq_read (v := ?_) rfl rfl rfl rfl (fun X hX => ?_) ?_; rotate_left; (focus (go_simp <;> with_reducible rfl)); simp only [Act.put, List.setIfInBounds_toArray, List.set_cons_zero, List.set_cons_succ]))
      refine tseq_both rfl rfl rfl rfl (fun K hK => ?_) (fun K hK => ?_)
      · have hrw6 := htwo.rd
        go_simp
        have hxv1 : Ext w6 (w6.alloc (.cells #[.int .i64 2, .int .i64 3, .int .i64 1, .int .i64 4] 3)).drew := ((Ext.refl _).alloc _).drew
        have bl4 : Blk (w6.alloc (.cells #[.int .i64 2, .int .i64 3, .int .i64 1, .int .i64 4] 3)).drew w6.heap.size 3 #[.int .i64 2, .int .i64 3, .int .i64 1, .int .i64 4] := Blk.new w6 _ _
        have hzv1 := bl4.lt
        have hzzv1 := hxv1.size
        have hdv1 : Dr R w6 (w6.alloc (.cells #[.int .i64 2, .int .i64 3, .int .i64 1, .int .i64 4] 3)).drew := hxv1.dr
        have hrv1 := hrw6.ext hxv1
        refine hK.out _ _ hdv1 ?_
        generalize (w6.alloc (.cells #[.int .i64 2, .int .i64 3, .int .i64 1, .int .i64 4] 3)).drew = v1 at *
        (try simp only [Act.put, List.setIfInBounds_toArray, List.set_cons_zero, List.set_cons_succ])
        refine tseq_both rfl rfl rfl rfl (fun K hK => ?_) (fun K hK => ?_)
        · go_simp
          refine (num_blk (n := 4) [2, 3, 1, 4] bl4 rfl rfl (by omega) (by omega) hrv1 (by omega) (by omega)).mono ?_
          rintro e v2 ⟨x, hx, rfl, hrv2, hddv2⟩
          have hdv2 := hdv1.trans hddv2
          have hzzv2 := hddv2.size
          refine hK.out _ _ hdv2 ?_
          (try simp only [Act.put, List.setIfInBounds_toArray, List.set_cons_zero, List.set_cons_succ])
          refine tseq_step rfl rfl rfl (fun K hK => ?_)
          go_simp
          have hxv3 : Ext v2 (v2.alloc (.cells #[.int .i64 2, .int .i64 3] 3)) := (Ext.refl _).alloc _
          have bl2 : Blk (v2.alloc (.cells #[.int .i64 2, .int .i64 3] 3)) v2.heap.size 3 #[.int .i64 2, .int .i64 3] := Blk.new v2 _ _
          have hzv3 := bl2.lt
          have hzzv3 := hxv3.size
          have hdv3 : Dr R w6 (v2.alloc (.cells #[.int .i64 2, .int .i64 3] 3)) := hdv2.ext hxv3
          have hrv3 := hrv2.ext hxv3
          refine hK.out _ _ hdv3 ?_
          generalize (v2.alloc (.cells #[.int .i64 2, .int .i64 3] 3)) = v3 at *
          (try simp only [Act.put, List.setIfInBounds_toArray, List.set_cons_zero, List.set_cons_succ])
          refine tseq_step rfl rfl rfl (fun K hK => ?_)
          go_simp
          refine (num_blk (n := 2) [2, 3] bl2 rfl rfl (by omega) (by omega) hrv3 (by omega) (by omega)).mono ?_
          rintro e v4 ⟨z, hz, rfl, hrv4, hddv4⟩
          have hdv4 := hdv3.trans hddv4
          have hzzv4 := hddv4.size
          refine hK.out _ _ hdv4 ?_
          (try simp only [Act.put, List.setIfInBounds_toArray, List.set_cons_zero, List.set_cons_succ])
          refine tseq_step rfl rfl rfl (fun K hK => ?_)
          go_simp
          refine (l2Random_at hrv4 (by omega) Hala.out (by simp at hx; omega)).mono ?_
          rintro e v9 ⟨t9, B9, m9, d9, rfl, ht9, hgt9, hm9, hr9, hd9⟩
          have hd69 := hdv4.trans hd9
          replace htwo := htwo.drawn hd69 hr9
          have Hgt9 := hide hgt9
          clear hgt9
          refine hK.out _ _ hd69 ?_
          (try simp only [Act.put, List.setIfInBounds_toArray, List.set_cons_zero, List.set_cons_succ])
          have cH := htwo.vb.cell
          have fH := htwo.vb.frozen
          have fin := htwo.setB (d' := d9) ht9
          (refine tseq_last rfl rfl rfl rfl (fun K hK => ?_))
          go_simp
          refine hK.out _ _ ?_
          refine tseq_nil ?_
          go_wp2_with fail
          go_meet
          exact ⟨t9, B9, m9, d9, _, fin, Hgt9, by omega, by omega⟩
        · go_simp
          have hxv2 : Ext v1 (v1.alloc (.cells #[.int .i64 2, .int .i64 3] 3)) := (Ext.refl _).alloc _
          have bl2 : Blk (v1.alloc (.cells #[.int .i64 2, .int .i64 3] 3)) v1.heap.size 3 #[.int .i64 2, .int .i64 3] := Blk.new v1 _ _
          have hzv2 := bl2.lt
          have hzzv2 := hxv2.size
          have hdv2 : Dr R w6 (v1.alloc (.cells #[.int .i64 2, .int .i64 3] 3)) := hdv1.ext hxv2
          have hrv2 := hrv1.ext hxv2
          replace bl4 := bl4.ext hxv2
          refine hK.out _ _ hdv2 ?_
          generalize (v1.alloc (.cells #[.int .i64 2, .int .i64 3] 3)) = v2 at *
          (try simp only [Act.put, List.setIfInBounds_toArray, List.set_cons_zero, List.set_cons_succ])
          refine tseq_step rfl rfl rfl (fun K hK => ?_)
          go_simp
          refine (num_blk (n := 4) [2, 3, 1, 4] bl4 rfl rfl (by omega) (by omega) hrv2 (by omega) (by omega)).mono ?_
          rintro e v3 ⟨x, hx, rfl, hrv3, hddv3⟩
          have hdv3 := hdv2.trans hddv3
          replace bl2 := bl2.dr hddv3 (by omega)
          have hzzv3 := hddv3.size
          refine hK.out _ _ hdv3 ?_
          (try simp only [Act.put, List.setIfInBounds_toArray, List.set_cons_zero, List.set_cons_succ])
          refine tseq_step rfl rfl rfl (fun K hK => ?_)
          go_simp
          refine (num_blk (n := 2) [2, 3] bl2 rfl rfl (by omega) (by omega) hrv3 (by omega) (by omega)).mono ?_
          rintro e v4 ⟨z, hz, rfl, hrv4, hddv4⟩
          have hdv4 := hdv3.trans hddv4
          have hzzv4 := hddv4.size
          refine hK.out _ _ hdv4 ?_
          (try simp only [Act.put, List.setIfInBounds_toArray, List.set_cons_zero, List.set_cons_succ])
          refine tseq_step rfl rfl rfl (fun K hK => ?_)
          go_simp
          refine (l2Random_at hrv4 (by omega) Hala.out (by simp at hx; omega)).mono ?_
          rintro e v9 ⟨t9, B9, m9, d9, rfl, ht9, hgt9, hm9, hr9, hd9⟩
          have hd69 := hdv4.trans hd9
          replace htwo := htwo.drawn hd69 hr9
          have Hgt9 := hide hgt9
          clear hgt9
          refine hK.out _ _ hd69 ?_
          (try simp only [Act.put, List.setIfInBounds_toArray, List.set_cons_zero, List.set_cons_succ])
          have cH := htwo.vb.cell
          have fH := htwo.vb.frozen
          have fin := htwo.setB (d' := d9) ht9
          (refine tseq_last rfl rfl rfl rfl (fun K hK => ?_))
          go_simp
          refine hK.out _ _ ?_
          refine tseq_nil ?_
          go_wp2_with fail
          go_meet
          exact ⟨t9, B9, m9, d9, _, fin, Hgt9, by omega, by omega⟩
      · have hrw6 := htwo.rd
        go_simp
        have hxv1 : Ext w6 (w6.alloc (.cells #[.int .i64 2, .int .i64 3] 3)).drew := ((Ext.refl _).alloc _).drew
        have bl2 : Blk (w6.alloc (.cells #[.int .i64 2, .int .i64 3] 3)).drew w6.heap.size 3 #[.int .i64 2, .int .i64 3] := Blk.new w6 _ _
        have hzv1 := bl2.lt
        have hzzv1 := hxv1.size
        have hdv1 : Dr R w6 (w6.alloc (.cells #[.int .i64 2, .int .i64 3] 3)).drew := hxv1.dr
        have hrv1 := hrw6.ext hxv1
        refine hK.out _ _ hdv1 ?_
        generalize (w6.alloc (.cells #[.int .i64 2, .int .i64 3] 3)).drew = v1 at *
        (try simp only [Act.put, List.setIfInBounds_toArray, List.set_cons_zero, List.set_cons_succ])
        refine tseq_step rfl rfl rfl (fun K hK => ?_)
        go_simp
        have hxv2 : Ext v1 (v1.alloc (.cells #[.int .i64 2, .int .i64 3, .int .i64 1, .int .i64 4] 3)) := (Ext.refl _).alloc _
        have bl4 : Blk (v1.alloc (.cells #[.int .i64 2, .int .i64 3, .int .i64 1, .int .i64 4] 3)) v1.heap.size 3 #[.int .i64 2, .int .i64 3, .int .i64 1, .int .i64 4] := Blk.new v1 _ _
        have hzv2 := bl4.lt
        have hzzv2 := hxv2.size
        have hdv2 : Dr R w6 (v1.alloc (.cells #[.int .i64 2, .int .i64 3, .int .i64 1, .int .i64 4] 3)) := hdv1.ext hxv2
        have hrv2 := hrv1.ext hxv2
        replace bl2 := bl2.ext hxv2
        refine hK.out _ _ hdv2 ?_
        generalize (v1.alloc (.cells #[.int .i64 2, .int .i64 3, .int .i64 1, .int .i64 4] 3)) = v2 at *
        (try simp only [Act.put, List.setIfInBounds_toArray, List.set_cons_zero, List.set_cons_succ])
        refine tseq_step rfl rfl rfl (fun K hK => ?_)
        go_simp
        refine (num_blk (n := 4) [2, 3, 1, 4] bl4 rfl rfl (by omega) (by omega) hrv2 (by omega) (by omega)).mono ?_
        rintro e v3 ⟨x, hx, rfl, hrv3, hddv3⟩
        have hdv3 := hdv2.trans hddv3
        replace bl2 := bl2.dr hddv3 (by omega)
        have hzzv3 := hddv3.size
        refine hK.out _ _ hdv3 ?_
        (try simp only [Act.put, List.setIfInBounds_toArray, List.set_cons_zero, List.set_cons_succ])
        refine tseq_step rfl rfl rfl (fun K hK => ?_)
        go_simp
        refine (num_blk (n := 2) [2, 3] bl2 rfl rfl (by omega) (by omega) hrv3 (by omega) (by omega)).mono ?_
        rintro e v4 ⟨z, hz, rfl, hrv4, hddv4⟩
        have hdv4 := hdv3.trans hddv4
        have hzzv4 := hddv4.size
        refine hK.out _ _ hdv4 ?_
        (try simp only [Act.put, List.setIfInBounds_toArray, List.set_cons_zero, List.set_cons_succ])
        refine tseq_step rfl rfl rfl (fun K hK => ?_)
        go_simp
        refine (l2Random_at hrv4 (by omega) Hala.out (by simp at hx; omega)).mono ?_
        rintro e v9 ⟨t9, B9, m9, d9, rfl, ht9, hgt9, hm9, hr9, hd9⟩
        have hd69 := hdv4.trans hd9
        replace htwo := htwo.drawn hd69 hr9
        have Hgt9 := hide hgt9
        clear hgt9
        refine hK.out _ _ hd69 ?_
        (try simp only [Act.put, List.setIfInBounds_toArray, List.set_cons_zero, List.set_cons_succ])
        have cH := htwo.vb.cell
        have fH := htwo.vb.frozen
        have fin := htwo.setB (d' := d9) ht9
        (refine tseq_last rfl rfl rfl rfl (fun K hK => ?_))
        go_simp
        refine hK.out _ _ ?_
        refine tseq_nil ?_
        go_wp2_with fail
        go_meet
        exact ⟨t9, B9, m9, d9, _, fin, Hgt9, by omega, by omega⟩
    · by_cases hy1 : y = 1
      · subst hy1
        have cH := htwo.vb.cell
        go_wp2_with fail
        refine (spec_l6Change htwo.rd (by omega) htwo.ib Hgt.out hm.1 (by omega)).mono ?_
        rintro e v9 ⟨t9, B9, m9, d9, rfl, ht9, hgt9, hm9, hr9, hd9⟩
        replace htwo := htwo.drawn hd9 hr9
        have Hgt9 := hide hgt9
        clear hgt9 cH
        have cH := htwo.vb.cell
        have fH := htwo.vb.frozen
        have fin := htwo.setB (d' := d9) ht9
        go_wp2_with fail
        go_meet
        exact ⟨t9, B9, m9, d9, _, fin, Hgt9, by omega, by omega⟩
      · have h0 : ((y : Int) == 0) = false := by simp; omega
        have h1 : ((y : Int) == 1) = false := by simp; omega
        clear hy0 hy1
        go_wp2_with fail
        go_meet
        exact ⟨t, B, m, d, _, htwo, Hgt, by omega, by omega⟩
  case rest =>
    clear htwo Hgt hm
    obtain ⟨t, B, m, d, N, htwo, Hgt, hm, hN⟩ := hcut
    have hRG := htwo.hR
    have hGG := htwo.hG
    have hHH := htwo.hH
    go_wp2_with fail
    refine (l19Rd_pick (n := 24) htwo.rd (by omega)).mono ?_
    rintro e w7 ⟨y, rfl, -, -, hr7, hd7⟩
    replace htwo := htwo.drawn hd7 hr7
    clear hr7 hd7
    go_upto_block 1 with fail
    go_cut [] (fun wx => ∃ (s : Sys) (A : Option Addr) (n c : Nat) (t : Sys) (B : Option Addr) (m d N : Nat), Two w wx R w2.heap.size w4.heap.size N s A n c t B m d ∧ (n ≤ 30000 ∧ n ≤ c) ∧ (m ≤ 30000 ∧ m ≤ d) ∧ N ≤ M + 200000)
    case first =>
      by_cases hy0 : y = 0
      · subst hy0
        have cG := htwo.va.cell
        go_wp2_with fail
        refine (spec_l2Wrong (L := n) htwo.rd (by omega) htwo.ia (Nat.le_refl _) (by omega)).mono ?_
        rintro e v1 ⟨s1, A1, n1, c1, rfl, hs1, hn1, hr1, hd1⟩
        replace htwo := htwo.drawn hd1 hr1
        clear cG
        go_wp2_with fail
        refine (spec_l2Wrong (L := n1) htwo.rd (by omega) hs1 (Nat.le_refl _) (by omega)).mono ?_
        rintro e v2 ⟨s2, A2, n2, c2, rfl, hs2, hn2, hr2, hd2⟩
        replace htwo := htwo.drawn hd2 hr2
        go_wp2_with fail
        refine (spec_l2Wrong (L := n2) htwo.rd (by omega) hs2 (Nat.le_refl _) (by omega)).mono ?_
        rintro e v3 ⟨s3, A3, n3, c3, rfl, hs3, hn3, hr3, hd3⟩
        replace htwo := htwo.drawn hd3 hr3
        have cG := htwo.va.cell
        have fG := htwo.va.frozen
        have fin := htwo.setA (c' := c3) hs3
        go_wp2_with fail
        go_meet
        exact ⟨s3, A3, n3, c3, t, B, m, d, _, fin, by omega, by omega, by omega⟩
      by_cases hy1 : y = 1
      · subst hy1
        have cG := htwo.vb.cell
        go_wp2_with fail
        refine (spec_l2Wrong (L := m) htwo.rd (by omega) htwo.ib (Nat.le_refl _) (by omega)).mono ?_
        rintro e v1 ⟨s1, A1, n1, c1, rfl, hs1, hn1, hr1, hd1⟩
        replace htwo := htwo.drawn hd1 hr1
        clear cG
        go_wp2_with fail
        refine (spec_l2Wrong (L := n1) htwo.rd (by omega) hs1 (Nat.le_refl _) (by omega)).mono ?_
        rintro e v2 ⟨s2, A2, n2, c2, rfl, hs2, hn2, hr2, hd2⟩
        replace htwo := htwo.drawn hd2 hr2
        go_wp2_with fail
        refine (spec_l2Wrong (L := n2) htwo.rd (by omega) hs2 (Nat.le_refl _) (by omega)).mono ?_
        rintro e v3 ⟨s3, A3, n3, c3, rfl, hs3, hn3, hr3, hd3⟩
        replace htwo := htwo.drawn hd3 hr3
        have cG := htwo.vb.cell
        have fG := htwo.vb.frozen
        have fin := htwo.setB (d' := c3) hs3
        go_wp2_with fail
        go_meet
        exact ⟨s, A, n, c, s3, A3, n3, c3, _, fin, by omega, by omega, by omega⟩
      by_cases hy2 : y = 2
      · subst hy2
        go_wp2_with fail
        refine (spec_l2Draw htwo.rd (by omega)).mono ?_
        rintro e v3 ⟨s3, A3, n3, c3, rfl, hs3, -, hn3, hr3, hd3⟩
        replace htwo := htwo.drawn hd3 hr3
        have cG := htwo.vb.cell
        have fG := htwo.vb.frozen
        have fin := htwo.setB (d' := c3) hs3
        go_wp2_with fail
        go_meet
        exact ⟨s, A, n, c, s3, A3, n3, c3, _, fin, by omega, by omega, by omega⟩
      by_cases hy3 : y = 3
      · subst hy3
        go_wp2_with fail
        refine (spec_l2Big htwo.rd (by omega)).mono ?_
        rintro e v3 ⟨s3, A3, n3, c3, rfl, hs3, -, hn3, ⟨hn31, hn3c⟩, hr3, hd3⟩
        replace htwo := htwo.drawn hd3 hr3
        obtain ⟨n', rfl⟩ : ∃ n', n3 = n' + 1 := ⟨n3 - 1, by omega⟩
        obtain ⟨g3, o3, cs3, rfl, -⟩ := hs3.2.2 (by omega)
        have cG := htwo.va.cell
        have fG := htwo.va.frozen
        have fin := htwo.setA (c' := c3) hs3
        have hn3c' : ((n' : Int)) ≤ (c3 : Int) := by omega
        go_wp2_with fail
        generalize ((v3.setCell ⟨w2.heap.size, 0, none⟩ (.int .i64 s3.al)).setCell ⟨w2.heap.size, 1, none⟩ (.int .i64 s3.st)).setCell ⟨w2.heap.size, 2, none⟩ (.slice (some ⟨g3, o3, none⟩) (n' + 1) c3) = w8 at *
        clear cG fG
        have cG : ∀ W, Ext w8 W → ∀ q, W.cell? ⟨w2.heap.size, q, none⟩ = #[Value.int .i64 s3.al, .int .i64 s3.st, .slice (some ⟨g3, o3, none⟩) (n' + 1) c3][q]? := fun W hW => (fin.va.ext hW).cell
        have hfr := SysIn.front (al := s3.al) (st := s3.st) (es := s3.edges) fin.ia (k := n') (by omega)
        have Hfr := hide hfr
        clear hfr
        have hRw8 := fin.rd.lt
        have hwr : IntKind.i64.wrap (n' : Int) = n' := IntWalk.i64_in _ (by omega)
        have hn0 : 0 ≤ (n' : Int) := by omega
        refine wp_region_tail (fun X => Ext w8 X) [14] (Ord.of [0, 1, 2, 3, 5, 6, 7, 8, 9, 10, 11, 4, 12, 13, 14]) (by kernel_rfl) rfl (by kernel_rfl) (by kernel_rfl) (by kernel_rfl) (fun _ _ _ _ _ h => h) (by first | assumption | exact (Ext.refl _).drew | exact (Dr.refl _ _).drew | (refine Ext.drew ?_; assumption)) ?_
        repeat (first | (refine tseq_skip rfl rfl (by assumption) ?_; simp only [Act.put, List.setIfInBounds_toArray, List.set_cons_zero, List.set_cons_succ]) | (refine tseq_pure (v := ?_) rfl rfl rfl rfl (fun X => ?_) ?_; rotate_left; (focus (go_simp <;> with_reducible rfl)); simp only [Act.put, List.setIfInBounds_toArray, List.set_cons_zero, List.set_cons_succ]) | (refine tseq_read (v := ?_) rfl rfl rfl rfl (fun X hX => ?_) ?_; rotate_left; (focus (go_simp <;> with_reducible rfl)); simp only [Act.put, List.setIfInBounds_toArray, List.set_cons_zero, List.set_cons_succ]))
        clear hwr
        (refine tseq_step rfl rfl rfl (fun K hK => ?_); go_simp)
        refine hK.out _ _ ((Ext.refl _).drew.alloc _) ?_
        (try simp only [Act.put, List.setIfInBounds_toArray, List.set_cons_zero, List.set_cons_succ])
        refine tseq_step rfl rfl rfl (fun K hK => ?_)
        refine wp_onto _ _ _ _ rfl w8.heap.size 65 _ 3 24 Tryd.underlying23 info_edge rfl (by decide) (.slice (some ⟨w8.heap.size, 0, none⟩) 0 0) 0 [] rfl (edge_lit w8) (R + 1) w8.heap.size (some ⟨g3, o3, none⟩) n' c3 (edgeCells (s3.edges.take n')) rfl (Hfr.out.at_.2.ext ((Ext.refl w8).drew.alloc _)) (edgeCells_one _) (by unfold maxLen; omega) (by omega) (by simp) ?_
        intro v w9 hown9 hg9 hat9
        rw [Nat.zero_add, List.nil_append] at hown9
        obtain ⟨A9, c9, rfl⟩ := own_form hown9
        have hcap9 := own_cap hown9
        have hx9 : Ext w8 w9 := (((Ext.refl w8).alloc (.cells #[] 65)).drew).grown hg9 (fun k hk => by simp [Value.ownBlock] at hk; omega)
        replace fin := fin.ext hx9
        have hin := SysIn.own (s := ⟨s3.al, s3.st, s3.edges.take n'⟩) hown9 hRw8
        have fin2 := fin.setB (d' := c9) hin
        have cH := fin.vb.cell
        have fH := fin.vb.frozen
        refine hK.out _ _ hx9 ?_
        (try simp only [Act.put, List.setIfInBounds_toArray, List.set_cons_zero, List.set_cons_succ])
        repeat (first | (refine tseq_skip rfl rfl (by assumption) ?_; simp only [Act.put, List.setIfInBounds_toArray, List.set_cons_zero, List.set_cons_succ]) | (refine tseq_pure (v := ?_) rfl rfl rfl rfl (fun X => ?_) ?_; rotate_left; (focus (go_simp <;> with_reducible rfl)); simp only [Act.put, List.setIfInBounds_toArray, List.set_cons_zero, List.set_cons_succ]) | (refine tseq_read (v := ?_) rfl rfl rfl rfl (fun X hX => ?_) ?_; rotate_left; (focus (go_simp <;> with_reducible rfl)); simp only [Act.put, List.setIfInBounds_toArray, List.set_cons_zero, List.set_cons_succ]))
        (refine tseq_last rfl rfl rfl rfl (fun K hK => ?_))
        go_simp
        refine hK.out _ _ ?_
        refine tseq_nil ?_
        go_wp2_with fail
        go_meet
        exact ⟨_, _, _, c3, _, _, _, _, _, fin2, by omega, by omega, by omega⟩
      have h0 : ((y : Int) == 0) = false := by simp; omega
      have h1 : ((y : Int) == 1) = false := by simp; omega
      have h2 : ((y : Int) == 2) = false := by simp; omega
      have h3 : ((y : Int) == 3) = false := by simp; omega
      clear hy0 hy1 hy2 hy3
      go_wp2_with fail
      go_meet
      exact ⟨s, A, n, c, t, B, m, d, _, htwo, by omega, by omega, by omega⟩
    case rest =>
      clear htwo Hgt hm hn hN Hg
      obtain ⟨s, A, n, c, t, B, m, d, N, htwo, hn, hm, hN⟩ := hcut
      obtain ⟨wE, hwE⟩ : ∃ wE, wE = wc := ⟨_, rfl⟩
      subst hwE
      have hS0 : Frm (fun k => k = w.heap.size) wE wE.drew := ⟨rfl, rfl, rfl, Nat.le_refl _, fun _ _ _ => rfl⟩
      have hfin := hide (((htwo.more hN).fin hn hm).drew)
      have cG : ∀ W, Frm (fun k => k = w.heap.size) wE W → ∀ q, W.cell? ⟨w2.heap.size, q, none⟩ = #[Value.int .i64 s.al, .int .i64 s.st, .slice A n c][q]? := fun W hW => (htwo.va.frm hW (by omega)).cell
      have cH : ∀ W, Frm (fun k => k = w.heap.size) wE W → ∀ q, W.cell? ⟨w4.heap.size, q, none⟩ = #[Value.int .i64 t.al, .int .i64 t.st, .slice B m d][q]? := fun W hW => (htwo.vb.frm hW (by omega)).cell
      have cz1 := htwo.z1.cell
      have fz1 := htwo.z1.frozen
      have cz2 := htwo.z2.cell
      have fz2 := htwo.z2.frozen
      go_wp2_with fail
      refine wp_region_tail (fun X => Frm (fun k => k = w.heap.size) wE X) [3] (Ord.of [0, 1, 2, 3]) (by kernel_rfl) rfl (by kernel_rfl) (by kernel_rfl) (by kernel_rfl) (fun _ _ _ _ _ h => h) (by first | assumption | exact (Ext.refl _).drew | exact (Dr.refl _ _).drew | (refine Ext.drew ?_; assumption)) ?_
      repeat (first | (refine tseq_skip rfl rfl (by assumption) ?_; simp only [Act.put, List.setIfInBounds_toArray, List.set_cons_zero, List.set_cons_succ]) | (refine tseq_pure (v := ?_) rfl rfl rfl rfl (fun X => ?_) ?_; rotate_left; (focus (go_simp <;> with_reducible rfl)); simp only [Act.put, List.setIfInBounds_toArray, List.set_cons_zero, List.set_cons_succ]) | (refine tseq_read (v := ?_) rfl rfl rfl rfl (fun X hX => ?_) ?_; rotate_left; (focus (go_simp <;> with_reducible rfl)); simp only [Act.put, List.setIfInBounds_toArray, List.set_cons_zero, List.set_cons_succ]))
      (refine tseq_step rfl rfl rfl (fun K hK => ?_); go_simp)
      refine hK.out _ _ (hS0.trans (frm_fill _ _ _ _ _)) ?_
      (try simp only [Act.put, List.setIfInBounds_toArray, List.set_cons_zero, List.set_cons_succ])
      (refine tseq_last rfl rfl rfl rfl (fun K hK => ?_))
      go_simp
      refine hK.out _ _ ?_
      refine tseq_nil ?_
      go_wp2_with fail
      exact bodyPost_ret (v := .tuple #[.agg #[.int .i64 s.al, .int .i64 s.st, .slice A n c], .agg #[.int .i64 t.al, .int .i64 t.st, .slice B m d]]) (by simp [results, Tryd.results40, go_sem, cz1, cz2]) rfl hfin.out
end Go.Proofs.YtcmgkekaeafgaaaDoor

namespace Go.Proofs.YtcmgkekaeafgaaaDoor
open Go Go.RowKit
set_option maxHeartbeats 4000000

set_option maxRecDepth 100000 in
theorem spec_l15Pair {R M : Nat} {w : World} (h : Rd w R M) (hM : M ≤ 600000000) :
    Calls Tryd.prog 15 #[.pointer (some ⟨R, 0, none⟩)] w (RetP R (M + 1000000) 40000 w) := by
  have hRl := h.lt
  have hx0 : Ext w ((w.alloc (.cells #[.int .i64 0, .int .i64 0, .slice none 0 0] 25)).alloc (.cells #[.int .i64 0, .int .i64 0, .slice none 0 0] 25)) := ((Ext.refl _).alloc _).alloc _
  obtain ⟨bz1, bz2⟩ := ext_blk2 (Ext.refl ((w.alloc (.cells #[.int .i64 0, .int .i64 0, .slice none 0 0] 25)).alloc (.cells #[.int .i64 0, .int .i64 0, .slice none 0 0] 25)))
  have Hx0 := hide hx0
  have Hz1 := hide bz1
  have Hz2 := hide bz2
  clear hx0 bz1 bz2
  go_enter Tryd.func15, Tryd.ntmps15
  go_wp2_with fail
  generalize (w.alloc (.cells #[.int .i64 0, .int .i64 0, .slice none 0 0] 25)).alloc (.cells #[.int .i64 0, .int .i64 0, .slice none 0 0] 25) = w1 at *
  refine (spec_l6Pair (h.ext Hx0.out) (by omega)).mono ?_
  rintro e w2 ⟨s, A, n, c, t, B, m, d, rfl, hs, ht, hn, hm, hr2, hd2⟩
  have hw2 := Hx0.out.dr.trans hd2
  have hz2 := hd2.size
  have hzw := Hz2.out.lt
  have z1 := Hz1.out.dr hd2 (by omega)
  have z2 := Hz2.out.dr hd2 (by omega)
  have hx3 : Ext w2 ((w2.alloc (.cells #[.int .i64 s.al, .int .i64 s.st, .slice A n c] 25)).alloc (.cells #[.int .i64 t.al, .int .i64 t.st, .slice B m d] 25)) := ((Ext.refl _).alloc _).alloc _
  obtain ⟨b1, b2⟩ := ext_blk2 (Ext.refl ((w2.alloc (.cells #[.int .i64 s.al, .int .i64 s.st, .slice A n c] 25)).alloc (.cells #[.int .i64 t.al, .int .i64 t.st, .slice B m d] 25)))
  have htwo : Two w _ R w2.heap.size (w2.heap.size + 1) (M + 200000) s A n c t B m d := ⟨z1.ext hx3, z2.ext hx3, b1, hs.ext hx3, b2, ht.ext hx3, hr2.ext hx3, hw2.ext hx3, hRl, by omega, by omega⟩
  clear Hx0 Hz1 Hz2 z1 z2 b1 b2 hs ht hr2 hw2 hx3 hd2
  go_upto_region 2 with fail
  generalize (w2.alloc (.cells #[.int .i64 s.al, .int .i64 s.st, .slice A n c] 25)).alloc (.cells #[.int .i64 t.al, .int .i64 t.st, .slice B m d] 25) = w3 at *
  go_cut [17] (fun v wx => ∃ (q : Bool) (N : Nat), v = .bool q ∧ (q = true → Hid (sysValid s = true)) ∧ Two w wx R w2.heap.size (w2.heap.size + 1) N s A n c t B m d ∧ N ≤ M + 200001)
  case first =>
    have cG := htwo.va.cell
    cases hv : sysValid s
    · have Hv := hide hv
      clear hv
      go_wp2_with fail
      refine (spec_SystemValid htwo.ia.at_).mono ?_
      rw [Hv.out]
      rintro e w4 ⟨rfl, hx4⟩
      go_wp2_with fail
      go_meet
      exact ⟨false, _, rfl, (fun h => (by cases h)), htwo.ext hx4, by omega⟩
    · have Hv := hide hv
      clear hv
      go_wp2_with fail
      refine (spec_SystemValid htwo.ia.at_).mono ?_
      rw [Hv.out]
      rintro e w4 ⟨rfl, hx4⟩
      replace htwo := htwo.ext hx4
      go_wp2_with fail
      refine (l19Rd_pick (n := 2) htwo.rd (by omega)).mono ?_
      rintro e w5 ⟨y, rfl, -, -, hr5, hd5⟩
      replace htwo := htwo.drawn hd5 hr5
      go_wp2_with fail
      go_meet
      exact ⟨_, _, rfl, fun _ => hide Hv.out, htwo, by omega⟩
  case rest =>
    clear htwo
    obtain ⟨q, N, rfl, hq, htwo, hN⟩ := hcut
    have hRG := htwo.hR
    go_upto_if 17 with fail
    go_cut [] (fun wx => ∃ (t : Sys) (B : Option Addr) (m d N : Nat), Two w wx R w2.heap.size (w2.heap.size + 1) N s A n c t B m d ∧ (m ≤ 40000 ∧ m ≤ d) ∧ N ≤ M + 1000000)
    case first =>
      cases q
      · go_wp2_with fail
        go_meet
        exact ⟨t, B, m, d, _, htwo, by omega, by omega⟩
      · have Hv := hq rfl
        have cG := htwo.va.cell
        clear hq
        go_wp2_with fail
        refine (spec_l15Split (L := n) htwo.rd (by omega) htwo.ia (valid_good Hv.out) (Nat.le_refl _) hn.2 (by omega)).mono ?_
        rintro e w5 ⟨t5, B5, m5, d5, rfl, ht5, hg5, hm5, hr5, hd5⟩
        replace htwo := htwo.drawn hd5 hr5
        have Hg5 := hide hg5
        clear hg5 cG
        have cH := htwo.vb.cell
        have fH := htwo.vb.frozen
        have fin := htwo.setB (d' := d5) ht5
        have cH2 := fin.vb.cell
        by_cases hst : t5.st < 16
        · go_wp2_with fail
          generalize ((w5.setCell ⟨w2.heap.size + 1, 0, none⟩ (.int .i64 t5.al)).setCell ⟨w2.heap.size + 1, 1, none⟩ (.int .i64 t5.st)).setCell ⟨w2.heap.size + 1, 2, none⟩ (.slice B5 m5 d5) = w6 at *
          clear cH fH htwo cH2
          refine (l19Rd_pick (n := 3) fin.rd (by omega)).mono ?_
          rintro e w7 ⟨y, rfl, -, -, hr7, hd7⟩
          replace fin := fin.drawn hd7 hr7
          by_cases hy : y = 0
          · subst hy
            have cH := fin.vb.cell
            go_wp2_with fail
            refine (spec_l6Change (L := m5) fin.rd (by omega) fin.ib Hg5.out (Nat.le_refl _) (by omega)).mono ?_
            rintro e w8 ⟨t8, B8, m8, d8, rfl, ht8, -, hm8, hr8, hd8⟩
            replace fin := fin.drawn hd8 hr8
            clear cH
            have cH := fin.vb.cell
            have fH := fin.vb.frozen
            have fin2 := fin.setB (d' := d8) ht8
            go_wp2_with fail
            go_meet
            exact ⟨t8, B8, m8, d8, _, fin2, by omega, by omega⟩
          · have hy' : ((y : Int) == 0) = false := by simp; omega
            clear hy
            go_wp2_with fail
            go_meet
            exact ⟨t5, B5, m5, d5, _, fin, by omega, by omega⟩
        · go_wp2_with fail
          go_meet
          exact ⟨t5, B5, m5, d5, _, fin, by omega, by omega⟩
    case rest =>
      clear htwo hm hN hq
      obtain ⟨t, B, m, d, N, htwo, hm, hN⟩ := hcut
      obtain ⟨wE, hwE⟩ : ∃ wE, wE = wc := ⟨_, rfl⟩
      subst hwE
      have hHH := htwo.hH
      have hS0 : Frm (fun k => k = w.heap.size) wE wE.drew := ⟨rfl, rfl, rfl, Nat.le_refl _, fun _ _ _ => rfl⟩
      have hfin := hide (((htwo.more hN).fin (L := 40000) (by omega) hm).drew)
      have cG : ∀ W, Frm (fun k => k = w.heap.size) wE W → ∀ q, W.cell? ⟨w2.heap.size, q, none⟩ = #[Value.int .i64 s.al, .int .i64 s.st, .slice A n c][q]? := fun W hW => (htwo.va.frm hW (by omega)).cell
      have cH : ∀ W, Frm (fun k => k = w.heap.size) wE W → ∀ q, W.cell? ⟨w2.heap.size + 1, q, none⟩ = #[Value.int .i64 t.al, .int .i64 t.st, .slice B m d][q]? := fun W hW => (htwo.vb.frm hW (by omega)).cell
      have cz1 := htwo.z1.cell
      have fz1 := htwo.z1.frozen
      have cz2 := htwo.z2.cell
      have fz2 := htwo.z2.frozen
      go_wp2_with fail
      refine wp_region_tail (fun X => Frm (fun k => k = w.heap.size) wE X) [3] (Ord.of [0, 1, 2, 3]) (by kernel_rfl) rfl (by kernel_rfl) (by kernel_rfl) (by kernel_rfl) (fun _ _ _ _ _ h => h) (by first | assumption | exact (Ext.refl _).drew | exact (Dr.refl _ _).drew | (refine Ext.drew ?_; assumption)) ?_
      repeat (first | (refine tseq_skip rfl rfl (by assumption) ?_; simp only [Act.put, List.setIfInBounds_toArray, List.set_cons_zero, List.set_cons_succ]) | (refine tseq_pure (v := ?_) rfl rfl rfl rfl (fun X => ?_) ?_; rotate_left; (focus (go_simp <;> with_reducible rfl)); simp only [Act.put, List.setIfInBounds_toArray, List.set_cons_zero, List.set_cons_succ]) | (refine tseq_read (v := ?_) rfl rfl rfl rfl (fun X hX => ?_) ?_; rotate_left; (focus (go_simp <;> with_reducible rfl)); simp only [Act.put, List.setIfInBounds_toArray, List.set_cons_zero, List.set_cons_succ]))
      (refine tseq_step rfl rfl rfl (fun K hK => ?_); go_simp)
      refine hK.out _ _ (hS0.trans (frm_fill _ _ _ _ _)) ?_
      (try simp only [Act.put, List.setIfInBounds_toArray, List.set_cons_zero, List.set_cons_succ])
      (refine tseq_last rfl rfl rfl rfl (fun K hK => ?_))
      go_simp
      refine hK.out _ _ ?_
      refine tseq_nil ?_
      go_wp2_with fail
      exact bodyPost_ret (v := .tuple #[.agg #[.int .i64 s.al, .int .i64 s.st, .slice A n c], .agg #[.int .i64 t.al, .int .i64 t.st, .slice B m d]]) (by simp [results, Tryd.results15, go_sem, cz1, cz2]) rfl hfin.out

/-- Two systems that were drawn, in new memory. -/
def RetD2 (w : World) (e : Ending) (w' : World) : Prop :=
  ∃ (s : Sys) (A : Option Addr) (n c : Nat) (t : Sys) (B : Option Addr) (m d : Nat), e = .returned (.tuple #[.agg #[.int .i64 s.al, .int .i64 s.st, .slice A n c], .agg #[.int .i64 t.al, .int .i64 t.st, .slice B m d]]) ∧
    SysAt w' w.heap.size w'.heap.size A n s ∧ SysAt w' w.heap.size w'.heap.size B m t ∧ (n ≤ 40000 ∧ n ≤ c) ∧ (m ≤ 40000 ∧ m ≤ d) ∧ Ext w w'
/-- A system that was drawn, in new memory. -/
def RetD1 (w : World) (e : Ending) (w' : World) : Prop :=
  ∃ (s : Sys) (A : Option Addr) (n c : Nat), e = .returned (.agg #[.int .i64 s.al, .int .i64 s.st, .slice A n c]) ∧ SysAt w' w.heap.size w'.heap.size A n s ∧ (n ≤ 40000 ∧ n ≤ c) ∧ Ext w w'
theorem Dr.new {R : Nat} {w w1 w2 : World} (h : Ext w w1) (hR : w.heap.size ≤ R) (hd : Dr R w1 w2) : Ext w w2 :=
  h.frm hd (fun k hk he => by omega)
theorem SysIn.new {R n : Nat} {w W : World} {A : Option Addr} {s : Sys} (h : SysIn W R A n s) (hR : w.heap.size ≤ R) : SysAt W w.heap.size W.heap.size A n s :=
  h.at_.more (by omega) (Nat.le_refl _)
theorem draw_one {R n c L : Nat} {w W : World} {A : Option Addr} {s : Sys} (hs : SysIn W R A n s) (hn : n ≤ L ∧ n ≤ c) (hL : L ≤ 40000) (hR : w.heap.size ≤ R) (hx : Ext w W) (hz : Blk W w.heap.size 25 #[.int .i64 0, .int .i64 0, .slice none 0 0]) :
    RetD1 w (.returned (.agg #[.int .i64 s.al, .int .i64 s.st, .slice A n c])) (((W.setCell ⟨w.heap.size, 0, none⟩ (.int .i64 s.al)).setCell ⟨w.heap.size, 1, none⟩ (.int .i64 s.st)).setCell ⟨w.heap.size, 2, none⟩ (.slice A n c)) := by
  have hf := frm_fill W w.heap.size (.int .i64 s.al) (.int .i64 s.st) (.slice A n c)
  exact ⟨s, A, n, c, rfl, (hs.far hz (by decide) hf).new hR, by omega, ((hx.setCell (p := ⟨w.heap.size, 0, none⟩) (Nat.le_refl _) _).setCell (p := ⟨w.heap.size, 1, none⟩) (Nat.le_refl _) _).setCell (p := ⟨w.heap.size, 2, none⟩) (Nat.le_refl _) _⟩
theorem draw_two {R n c m d : Nat} {w W : World} {A B : Option Addr} {s t : Sys} (hs : SysIn W R A n s) (ht : SysIn W R B m t) (hn : n ≤ 40000 ∧ n ≤ c) (hm : m ≤ 40000 ∧ m ≤ d) (hR : w.heap.size ≤ R) (hx : Ext w W)
    (hz : Blk W w.heap.size 25 #[.int .i64 0, .int .i64 0, .slice none 0 0]) (hz2 : Blk W (w.heap.size + 1) 25 #[.int .i64 0, .int .i64 0, .slice none 0 0]) :
    RetD2 w (.returned (.tuple #[.agg #[.int .i64 s.al, .int .i64 s.st, .slice A n c], .agg #[.int .i64 t.al, .int .i64 t.st, .slice B m d]])) ((((((W.setCell ⟨w.heap.size, 0, none⟩ (.int .i64 s.al)).setCell ⟨w.heap.size, 1, none⟩ (.int .i64 s.st)).setCell ⟨w.heap.size, 2, none⟩ (.slice A n c)).setCell ⟨w.heap.size + 1, 0, none⟩ (.int .i64 t.al)).setCell ⟨w.heap.size + 1, 1, none⟩ (.int .i64 t.st)).setCell ⟨w.heap.size + 1, 2, none⟩ (.slice B m d)) := by
  have hf := frm_fill W w.heap.size (.int .i64 s.al) (.int .i64 s.st) (.slice A n c)
  have a1 := hs.far hz (by decide) hf
  have a2 := ht.far hz (by decide) hf
  have a3 := hz2.frm hf (by omega)
  have hx2 := ((hx.setCell (p := ⟨w.heap.size, 0, none⟩) (Nat.le_refl _) (.int .i64 s.al)).setCell (p := ⟨w.heap.size, 1, none⟩) (Nat.le_refl _) (.int .i64 s.st)).setCell (p := ⟨w.heap.size, 2, none⟩) (Nat.le_refl _) (.slice A n c)
  generalize ((W.setCell ⟨w.heap.size, 0, none⟩ (.int .i64 s.al)).setCell ⟨w.heap.size, 1, none⟩ (.int .i64 s.st)).setCell ⟨w.heap.size, 2, none⟩ (.slice A n c) = W1 at *
  have hf := frm_fill W1 (w.heap.size + 1) (.int .i64 t.al) (.int .i64 t.st) (.slice B m d)
  exact ⟨s, A, n, c, t, B, m, d, rfl, (a1.far a3 (by decide) hf).new hR, (a2.far a3 (by decide) hf).new hR, hn, hm,
    ((hx2.setCell (p := ⟨w.heap.size + 1, 0, none⟩) (Nat.le_succ _) _).setCell (p := ⟨w.heap.size + 1, 1, none⟩) (Nat.le_succ _) _).setCell (p := ⟨w.heap.size + 1, 2, none⟩) (Nat.le_succ _) _⟩
theorem spec_DrawSimulates {A : Option Addr} {n c : Nat} {w : World} (h : Bytes w A n) (hn : n ≤ 9223372036854775807) (hc : n ≤ c) (hc2 : c ≤ 9223372036854775807) :
    Calls Tryd.prog 5 #[.slice A n c] w (RetD2 w) := by
  have hx0 : Ext w ((w.alloc (.cells #[.int .i64 0, .int .i64 0, .slice none 0 0] 25)).alloc (.cells #[.int .i64 0, .int .i64 0, .slice none 0 0] 25)) := ((Ext.refl _).alloc _).alloc _
  obtain ⟨bz, by_⟩ := ext_blk2 (Ext.refl ((w.alloc (.cells #[.int .i64 0, .int .i64 0, .slice none 0 0] 25)).alloc (.cells #[.int .i64 0, .int .i64 0, .slice none 0 0] 25)))
  have hh := hide (h.ext hx0)
  have hz0 := by_.lt
  clear h
  go_enter Tryd.func5, Tryd.ntmps5
  go_wp2_with fail
  refine (spec_l19Open hh.out hn hc hc2).mono ?_
  rintro e w1 ⟨R, rfl, hR, hr1, hx1⟩
  have hx01 := hx0.trans hx1
  have bz1 := bz.ext hx1
  have by1 := by_.ext hx1
  go_wp2_with fail
  refine (spec_l15Pair hr1 (by omega)).mono ?_
  rintro e w2 ⟨s, C, k, q, t, B, m, d, rfl, hs, ht, hk, hm, hr2, hd2⟩
  have bz2 := bz1.dr hd2 (by omega)
  have by2 := by1.dr hd2 (by omega)
  have cz := bz2.cell
  have fz := bz2.frozen
  have cy := by2.cell
  have fy := by2.frozen
  have hfin := hide (draw_two (c := q) (d := d) hs ht hk hm (by omega) (Dr.new hx01 (by omega) hd2) bz2 by2)
  clear bz by_ bz1 by1 hx0 hx1
  go_wp2_with fail
  exact bodyPost_ret (v := .tuple #[.agg #[.int .i64 s.al, .int .i64 s.st, .slice C k q], .agg #[.int .i64 t.al, .int .i64 t.st, .slice B m d]]) (by simp [results, Tryd.results5, go_sem, cz, cy]) rfl hfin.out
theorem spec_DrawBisimilar {A : Option Addr} {n c : Nat} {w : World} (h : Bytes w A n) (hn : n ≤ 9223372036854775807) (hc : n ≤ c) (hc2 : c ≤ 9223372036854775807) :
    Calls Tryd.prog 10 #[.slice A n c] w (RetD2 w) := by
  have hx0 : Ext w ((w.alloc (.cells #[.int .i64 0, .int .i64 0, .slice none 0 0] 25)).alloc (.cells #[.int .i64 0, .int .i64 0, .slice none 0 0] 25)) := ((Ext.refl _).alloc _).alloc _
  obtain ⟨bz, by_⟩ := ext_blk2 (Ext.refl ((w.alloc (.cells #[.int .i64 0, .int .i64 0, .slice none 0 0] 25)).alloc (.cells #[.int .i64 0, .int .i64 0, .slice none 0 0] 25)))
  have hh := hide (h.ext hx0)
  have hz0 := by_.lt
  clear h
  go_enter Tryd.func10, Tryd.ntmps10
  go_wp2_with fail
  refine (spec_l19Open hh.out hn hc hc2).mono ?_
  rintro e w1 ⟨R, rfl, hR, hr1, hx1⟩
  have hx01 := hx0.trans hx1
  have bz1 := bz.ext hx1
  have by1 := by_.ext hx1
  go_wp2_with fail
  refine (spec_l15Pair hr1 (by omega)).mono ?_
  rintro e w2 ⟨s, C, k, q, t, B, m, d, rfl, hs, ht, hk, hm, hr2, hd2⟩
  have bz2 := bz1.dr hd2 (by omega)
  have by2 := by1.dr hd2 (by omega)
  have cz := bz2.cell
  have fz := bz2.frozen
  have cy := by2.cell
  have fy := by2.frozen
  have hfin := hide (draw_two (c := q) (d := d) hs ht hk hm (by omega) (Dr.new hx01 (by omega) hd2) bz2 by2)
  clear bz by_ bz1 by1 hx0 hx1
  go_wp2_with fail
  exact bodyPost_ret (v := .tuple #[.agg #[.int .i64 s.al, .int .i64 s.st, .slice C k q], .agg #[.int .i64 t.al, .int .i64 t.st, .slice B m d]]) (by simp [results, Tryd.results10, go_sem, cz, cy]) rfl hfin.out
end Go.Proofs.YtcmgkekaeafgaaaDoor
