/- impl.greatestRelation, walked. -/
import Derived.Test.YtdeopnjheeekcaaDoorMov
import Derived.Deep.RegionHeld3
namespace Go.Proofs.YtdeopnjheeekcaaDoor
open Go Go.RowKit
set_option maxHeartbeats 4000000

/-- The sum of the numbers in a row of cells. -/
def sumAt (w : World) (g p : Nat) : Nat := ((List.range p).map fun i => (intOf ((w.cell? ⟨g, i, none⟩).getD undef)).toNat).sum
theorem sumAt_eq {w : World} {base g p c : Nat} {R : List Nat} (h : w.ownsRow base 3 1 (.slice (some ⟨g, 0, none⟩) p c) p (nats R)) : sumAt w g p = R.sum := by
  have hl : R.length = p := by have := h.1; rw [nats_length] at this; omega
  have hm : ((List.range p).map fun i => (intOf ((w.cell? ⟨g, i, none⟩).getD undef)).toNat) = R := by
    apply List.ext_getElem (by simp [hl])
    intro i h1 h2
    rw [List.getElem_map, List.getElem_range, h.cellAt i (by omega)]
    simp [nats, h2, intOf]
  unfold sumAt
  rw [hm]
theorem diff_pow {r j : Nat} (h : r.testBit j = true) : diff r (2 ^ j) = r - 2 ^ j := by
  apply Nat.eq_of_testBit_eq
  intro k
  rw [diff_bit, testBit_sub_pow h, Nat.testBit_two_pow]
  by_cases hk : k = j
  · simp [hk]
  · simp [hk, Ne.symm hk]
theorem nats_set (R : List Nat) (i v : Nat) : nats (R.set i v) = (nats R).set i (.int .i64 (v : Nat)) := by simp [nats, List.map_set]

theorem nodup_ne {l : List Nat} (h : l.Nodup) {x y j : Nat} (hxy : x < y) (hx : l[x]? = some j) (hy : l[y]? = some j) : False := by
  obtain ⟨h1, e1⟩ := List.getElem?_eq_some_iff.1 hx
  obtain ⟨h2, e2⟩ := List.getElem?_eq_some_iff.1 hy
  exact (List.pairwise_iff_getElem.1 h) x y h1 h2 hxy (by rw [e1, e2])
theorem nats_fill {k p v : Nat} {rest : List Value} (hr : rest.length = p - k) (hk : k < p) : (nats (List.replicate k v) ++ rest).set k (.int .i64 (v : Nat)) = nats (List.replicate (k + 1) v) ++ rest.drop 1 := by
  match rest, hr with
  | [], hr => simp at hr; omega
  | x :: r, _ =>
    have hl : (nats (List.replicate k v)).length = k := by rw [nats_length, List.length_replicate]
    rw [List.set_append_right _ _ (by omega), hl, Nat.sub_self, List.replicate_succ', nats_append]
    simp [nats]
theorem wrap_full {q : Nat} (hq : q ≤ 16) : wrap64 (wrap64 ((2 : Int) ^ q) - 1) = ((2 ^ q - 1 : Nat) : Int) := by
  rw [wrap_pow (by omega)]
  have hp := (Sm.bit (n := q) (by omega)).lt
  have h1 := Nat.two_pow_pos q
  generalize (2 : Nat) ^ q = x at *
  unfold wrap64
  omega

theorem impl_greatestRelation {both : Bool} {lo hi lo' hi' : Nat} {A : Option Addr} {n c : Nat} {B : Option Addr} {m d : Nat} {s t : Sys} {p q : Nat} {w : World} (h : SysAt w lo hi A n s) (h' : SysAt w lo' hi' B m t) (hT : Tab w)
    (hsp : s.st = p) (htq : t.st = q) (hp1 : 1 ≤ p) (hp : p ≤ 16) (hq : q ≤ 16) (hf : Few p s.edges) (hg : Few q t.edges) :
    Calls Tryd.prog 29 #[.agg #[.int .i64 s.al, .int .i64 s.st, .slice A n c], .agg #[.int .i64 t.al, .int .i64 t.st, .slice B m d], .bool both] w fun e w' => ∃ g R, e = .returned (.slice (some ⟨g, 0, none⟩) p p) ∧ w'.ownsRow w.heap.size 3 1 (.slice (some ⟨g, 0, none⟩) p p) p (nats R) ∧ Gfp both s.edges t.edges p q R ∧ Ext w w' := by
  have HS := hide (fun W (hW : Ext w W) => h.ext hW)
  have HS' := hide (fun W (hW : Ext w W) => h'.ext hW)
  have Hf := hide hf
  have Hg := hide hg
  have hf16 := hide (show Few 16 s.edges from fun e he => by have := hf e he; omega)
  have hg16 := hide (show Few 16 t.edges from fun e he => by have := hg e he; omega)
  clear h h' hf hg
  rw [hsp, htq]
  go_enter Tryd.func29, Tryd.ntmps29
  go_wp2_with fail
  have hext0 := ((Ext.refl w).alloc (.cells #[.int .i64 s.al, .int .i64 p, .slice A n c] 29)).alloc (.cells #[.int .i64 t.al, .int .i64 q, .slice B m d] 29)
  have hb1 := Blk.new w 29 #[.int .i64 s.al, .int .i64 p, .slice A n c]
  have hb2 := Blk.new (w.alloc (.cells #[.int .i64 s.al, .int .i64 p, .slice A n c] 29)) 29 #[.int .i64 t.al, .int .i64 q, .slice B m d]
  replace hb1 := hb1.ext ((Ext.refl _).alloc (.cells #[.int .i64 t.al, .int .i64 q, .slice B m d] 29))
  have hsz : w.heap.size + 2 = ((w.alloc (.cells #[.int .i64 s.al, .int .i64 p, .slice A n c] 29)).alloc (.cells #[.int .i64 t.al, .int .i64 q, .slice B m d] 29)).heap.size := by simp
  rw [show (w.alloc (.cells #[.int .i64 s.al, .int .i64 p, .slice A n c] 29)).heap.size = w.heap.size + 1 by simp] at hb2
  generalize (w.alloc (.cells #[.int .i64 s.al, .int .i64 p, .slice A n c] 29)).alloc (.cells #[.int .i64 t.al, .int .i64 q, .slice B m d] 29) = w0 at *
  have e1 : ∀ W, Ext w0 W → ∀ j, W.cell? ⟨w.heap.size, j, none⟩ = #[Value.int .i64 s.al, .int .i64 p, .slice A n c][j]? := fun W hW => (hb1.ext hW).cell
  have e2 : ∀ W, Ext w0 W → ∀ j, W.cell? ⟨w.heap.size + 1, j, none⟩ = #[Value.int .i64 t.al, .int .i64 q, .slice B m d][j]? := fun W hW => (hb2.ext hW).cell
  have hr := Ext.refl w0
  have cS : ∀ W, Ext w0 W → Calls Tryd.prog 40 #[.agg #[.int .i64 s.al, .int .i64 p, .slice A n c]] W fun e w' => ∃ b, e = .returned (.pointer (some ⟨b, 0, none⟩)) ∧ W.heap.size ≤ b ∧ MovB w' b s.edges ∧ Ext W w' := fun W hW => by
    rw [← hsp]
    exact impl_movesOf (HS.out _ (hext0.trans hW)) hf16.out
  have cT : ∀ W, Ext w0 W → Calls Tryd.prog 40 #[.agg #[.int .i64 t.al, .int .i64 q, .slice B m d]] W fun e w' => ∃ b, e = .returned (.pointer (some ⟨b, 0, none⟩)) ∧ W.heap.size ≤ b ∧ MovB w' b t.edges ∧ Ext W w' := fun W hW => by
    rw [← htq]
    exact impl_movesOf (HS'.out _ (hext0.trans hW)) hg16.out
  have CS := hide cS
  have CT := hide cT
  clear cS cT
  go_region_held3 (fun W => Ext w0 W) (first | assumption | (refine Ext.drew ?_; assumption) | (refine Ext.trans ?_ (by assumption); assumption) | (refine Ext.trans ?_ (by assumption); refine Ext.drew ?_; assumption)) (first
    | (go_at_call 40; with_reducible refine (CS.out _ ?_).mono ?_; (first | assumption | (refine Ext.drew ?_; assumption)); rintro e w1 ⟨b1, rfl, hlb1, hm1, hx1⟩)
    | (go_at_call 40; with_reducible refine (CT.out _ ?_).mono ?_; (first | assumption | (refine Ext.drew ?_; assumption)); rintro e w2 ⟨b2, rfl, hlb2, hm2, hx2⟩))
  have m2 := hm2
  have m1 : MovB w2 b1 s.edges := by first | exact hm1.ext hx2 | exact hm1.ext (((Ext.refl _).drew).trans hx2)
  have hw02 : Ext w0 w2 := by assumption
  have hw2 := hext0.trans hw02
  clear hm1 hm2 hx1 hx2 hlb1 hlb2 hb1 hb2
  have e1' := e1 w2 hw02
  go_wp2_with (at_make; refine wpList_make w w2 rfl _ _ 32 rfl 3 _ 1 8 Tryd.underlying32 info_int _ _ p rfl rfl hw2 (by omega) (by unfold maxLen; omega) ?_; intro w3 hw3 hown3 hx23 hsz3)
  clear e1 e1'
  have hgw : w.heap.size ≤ w2.heap.size := hw2.size
  have hgw1 : w.heap.size + 1 < w2.heap.size := by have := hw02.size; omega
  obtain ⟨g, hgE⟩ : ∃ g, g = w2.heap.size := ⟨_, rfl⟩
  rw [← hgE] at hown3 hsz3 hgw hgw1 ⊢
  have hgg : w2.heap.size ≤ g := by omega
  clear hgE
  go_loopw [25] (fun i wr => ∃ k : Nat, k ≤ p ∧ i = .int .i64 k ∧ ∃ rest : List Value, Hid (rest.length = p - k) ∧ wr.ownsRow w.heap.size 3 1 (.slice (some ⟨g, 0, none⟩) p p) p (nats (List.replicate k (2 ^ q - 1)) ++ rest) ∧ Ext w2 wr) (fun i _ => p - (intOf i).toNat)
  case atStart => exact ⟨0, Nat.zero_le _, rfl, _, by have := hown3.1; unfold Hid; rw [this]; omega, by simpa [nats] using hown3, hx23⟩
  case round =>
    obtain ⟨k, hk, rfl, rest, hrest, hown, hext⟩ := hrel
    have e2' := e2 wr (hw02.trans hext)
    by_cases hlt : k < p
    · obtain ⟨o0, g0⟩ := own_cell hown k (by omega)
      have f0 := hown.frozenAt k
      have q1 : (q : Int) ≤ 64 := by omega
      have hst := hown.stored k (.int .i64 ((2 ^ q - 1 : Nat) : Nat))
      rw [nats_fill hrest.out hlt] at hst
      have hwf := hide (wrap_full hq)
      go_wp2
      go_roundw
      case rel => exact ⟨k + 1, by omega, by go_num, rest.drop 1, by have := hrest.out; unfold Hid; rw [List.length_drop]; omega, by rw [hwf.out]; exact hst.1, hext.setCell (by dsimp only; omega) _⟩
      case measure => simp [intOf]; omega
    · obtain rfl : p = k := by omega
      obtain rfl : rest = [] := List.eq_nil_of_length_eq_zero (by have := hrest.out; omega)
      rw [List.append_nil] at hown
      have hI := Inv.start both s.edges t.edges p q
      generalize List.replicate p (2 ^ q - 1) = R at hown hI
      clear hown3 hx23 hw3 hrest hlt e2 e2'
      go_wp2
      go_loopw [11] (fun _ wr => ∃ R : List Nat, wr.ownsRow w.heap.size 3 1 (.slice (some ⟨g, 0, none⟩) p p) p (nats R) ∧ Inv both s.edges t.edges p q R ∧ Ext w2 wr) (fun _ wr => sumAt wr g p)
      case atStart => exact ⟨R, hown, hI, hext⟩
      case round =>
        clear hown hI hext hk
        obtain ⟨R, hown, hI, hext⟩ := hrel
        have hsum := hide (sumAt_eq hown)
        go_wp2
        go_loopw [11, 38] (fun v i wr => ∃ k : Nat, k ≤ p ∧ i = .int .i64 k ∧ ∃ (ch : Bool) (S : List Nat), v = .bool ch ∧ wr.ownsRow w.heap.size 3 1 (.slice (some ⟨g, 0, none⟩) p p) p (nats S) ∧ Inv both s.edges t.edges p q S ∧ Ext w2 wr
          ∧ Hid (ch = false → S = R ∧ ∀ i j, i < k → rel R i j → Ok both s.edges t.edges (rel R) i j) ∧ Hid (ch = true → S.sum < R.sum)) (fun _ i _ => p - (intOf i).toNat)
        case atStart => exact ⟨0, Nat.zero_le _, rfl, false, R, rfl, hown, hI, hext, fun _ => ⟨rfl, fun i j hi => by omega⟩, fun h => by cases h⟩
        case round =>
          clear hown hI hext
          obtain ⟨k, hk, rfl, ch, S, rfl, hown, hI, hext, hno, hyes⟩ := hrel
          by_cases hlt : k < p
          · have hSl : S.length = p := hI.len
            obtain ⟨r, hr⟩ : ∃ r, S[k]? = some r := ⟨_, List.getElem?_eq_getElem (by omega)⟩
            have hr' : S.getD k 0 = r := by rw [List.getD_eq_getElem?_getD, hr]; rfl
            have hrs : Sm r := Nat.lt_of_lt_of_le (hI.small r (List.mem_of_getElem? hr)) (by rw [show (4294967296 : Nat) = 2 ^ 32 from rfl]; exact Nat.pow_le_pow_right (by omega) (by omega))
            have hc0 : wr.cell? ⟨g, k, none⟩ = some (.int .i64 (r : Nat)) := by rw [hown.cellAt k (by omega)]; simp [nats, hr]
            have Hr := hide hr
            have Hr' := hide hr'
            clear hr hr'
            have hT' := (hT.ext hw2).ext hext
            go_wp2_with (go_at_call 35; refine (impl_members r hrs _ hT').mono ?_; rintro e w4 ⟨C, f, rfl, hown4, hx4⟩)
            have hks := letters_length r 32
            have hkm := hide (fun k => @mem_letters r 32 k)
            have hrd := Reads.of_own (own_less hown4 (Nat.le_refl _))
            have hgr : g < wr.heap.size := by
              have := World.block_lt_of_cell? wr _ hc0
              exact this
            have hown5 := own_ext hown hx4
            have hext5 := hext.trans hx4
            have hks0 : ∀ y, 0 ≤ y → ∀ j, (letters r 32)[y]? = some j → rel S k j := fun y _ j hy => by
              have := (hkm.out j).1 (List.mem_of_getElem? hy)
              exact rel_getD (by rw [Hr'.out]; exact this.2)
            have hnd : (letters r 32).Nodup := List.Pairwise.filter _ List.nodup_range
            have hj32 : ∀ j, j ∈ letters r 32 → j < 16 := fun j hj => by
              have h1 := (hkm.out j).1 hj
              have h2 := rel_lt hI (rel_getD (by rw [Hr'.out]; exact h1.2) : rel S k j)
              omega
            have hcov0 : ch = false → ∀ j, rel R k j → ∃ y : Nat, (letters r 32)[y]? = some j := fun hch j hj => by
              obtain ⟨rfl, _⟩ := hno hch
              have h2 := rel_lt hI hj
              have h3 := hj.2
              rw [Hr'.out] at h3
              exact List.getElem?_of_mem ((hkm.out j).2 ⟨by omega, h3⟩)
            have Hcov0 := hide hcov0
            clear hcov0
            have Hks0 := hide hks0
            have Hnd := hide hnd
            have Hj32 := hide hj32
            clear hks0 hnd hj32 hkm hown hext hown4
            generalize letters r 32 = ks at *
            go_loopw [11, 46] (fun v i wr => ∃ x : Nat, x ≤ ks.length ∧ i = .int .i64 x ∧ ∃ (ch : Bool) (S : List Nat), v = .bool ch ∧ wr.ownsRow w.heap.size 3 1 (.slice (some ⟨g, 0, none⟩) p p) p (nats S) ∧ Inv both s.edges t.edges p q S ∧ Ext w2 wr ∧ Frm (fun b => b = g) w4 wr
              ∧ Hid (ch = false → S = R ∧ (∀ i j, i < k → rel R i j → Ok both s.edges t.edges (rel R) i j) ∧ ∀ y, y < x → ∀ j, ks[y]? = some j → Ok both s.edges t.edges (rel R) k j) ∧ Hid (ch = true → S.sum < R.sum) ∧ Hid (∀ y, x ≤ y → ∀ j, ks[y]? = some j → rel S k j)
              ∧ Hid (ch = false → ∀ j, rel R k j → ∃ y : Nat, ks[y]? = some j)) (fun _ i _ => ks.length - (intOf i).toNat)
            case atStart => exact ⟨0, Nat.zero_le _, rfl, ch, S, rfl, hown5, hI, hext5, Frm.refl _ _, fun h => ⟨(hno h).1, (hno h).2, fun y hy => by omega⟩, hyes, Hks0.out, Hcov0.out⟩
            case round =>
              clear hown5 hI hext5 hno hyes
              obtain ⟨x, hx, rfl, ch, S, rfl, hown, hI, hext, hfrm, hno, hyes, hleft, hcov⟩ := hrel
              by_cases hlx : x < ks.length
              · obtain ⟨ad, j, rfl, _, _, hj, hjc⟩ := (hrd.frm hfrm (fun b hb _ hbg => by omega)).nat hlx
                have hj16 := Hj32.out j (List.mem_of_getElem? hj.out)
                have hrel1 := hide (hleft x (Nat.le_refl _) j hj.out)
                have hSl : S.length = p := hI.len
                have hSm : ∀ r ∈ S, Sm r := fun r hr => Nat.lt_of_lt_of_le (hI.small r hr) (by rw [show (4294967296 : Nat) = 2 ^ 32 from rfl]; exact Nat.pow_le_pow_right (by omega) (by omega))
                have hTw := (hT.ext hw2).ext hext
                have hans := impl_answers (both := both) (c := p) (m1.ext hext).at_ (m2.ext hext).at_ (Reads.of_own hown) hSm hTw (show k < 16 by omega) hj16 Hf.out Hg.out hp hq (show p ≤ S.length by omega)
                have Hans := hide hans
                clear hans
                have hiff := hide (ansB_iff (both := both) (R := S) (i := k) (j := j) Hf.out Hg.out hp)
                cases hb : ansB both s.edges t.edges S k j
                · have Hb := hide hb
                  have Hnok := hide (show ¬ Ok both s.edges t.edges (rel S) k j from fun h => by rw [hiff.out.2 h] at hb; cases hb)
                  clear hb
                  go_wp2_with (go_at_call 41; refine (Hans.out).mono ?_; rw [Hb.out]; rintro e w5 ⟨rfl, hx5⟩)
                  obtain ⟨v, hv⟩ : ∃ v, S[k]? = some v := ⟨_, List.getElem?_eq_getElem (by omega)⟩
                  have hvD : S.getD k 0 = v := by rw [List.getD_eq_getElem?_getD, hv]; rfl
                  have hvs := hSm v (List.mem_of_getElem? hv)
                  have hown6 := own_ext hown hx5
                  have hvb : v.testBit j = true := by have := hrel1.out.2; rw [hvD] at this; exact this
                  have hval := hide (show bits .andNot .i64 (v : Nat) (wrap64 (2 ^ j)) = ((v - 2 ^ j : Nat) : Int) by rw [wrap_pow (by omega), bits_andNot hvs (Sm.bit (by omega)), diff_pow hvb])
                  have hext6 := (hext.trans hx5).drew
                  have hown7 := own_ext hown6 ((Ext.refl _).drew)
                  have hfrm7 := (hfrm.ext hx5).ext ((Ext.refl _).drew)
                  have hc7 : w5.drew.cell? ⟨g, k, none⟩ = some (.int .i64 (v : Nat)) := by rw [hown7.cellAt k (by omega)]; simp [nats, hv]
                  have hf7 := hown7.frozenAt k
                  have hkp : (k : Int) < p := by omega
                  have hj64 : (j : Int) ≤ 64 := by omega
                  have hd := hide (hI.drop hrel1.out Hnok.out)
                  have hsd := hide (sum_drop_lt hrel1.out)
                  have hrs2 := hide (fun a b => rel_set hrel1.out a b)
                  rw [hvD] at hd hsd hrs2
                  have hc6 : w5.cell? ⟨g, k, none⟩ = some (.int .i64 (v : Nat)) := hc7
                  have hst := hown7.stored k (.int .i64 ((v - 2 ^ j : Nat) : Nat))
                  rw [← nats_set] at hst
                  have Hvs := hide hv
                  clear hv hvD hvb
                  go_still_tail 8, (by kernel_rfl)
                  repeat (refine wpStill_step (fun K hK => ?_); go_simp; (try simp only [hkp, hj64, if_true]); refine hK _ ?_; clear hK K)
                  try refine wpStill_nil ?_
                  change wpList _ _ _ _ _ w5.drew
                  generalize w5.drew = w6 at *
                  go_wp2
                  go_roundw
                  case rel => exact ⟨x + 1, by omega, by go_num, true, S.set k (v - 2 ^ j), rfl, by rw [hval.out]; exact hst.1, hd.out, hext6.setCell (by dsimp only; omega) _, hfrm7.cell rfl _, (fun h => by cases h), fun _ => Nat.lt_of_lt_of_le hsd.out (by
                    cases ch
                    · rw [(hno rfl).1]; exact Nat.le_refl _
                    · exact Nat.le_of_lt (hyes rfl)), fun y hy i hi => (hrs2.out k i).2 ⟨hleft y (by omega) i hi, fun he => by
                      exact nodup_ne Hnd.out (show x < y by omega) hj.out (by rw [hi, he.2])⟩, fun h => by cases h⟩
                  case measure => simp [intOf]; omega
                · have Hb := hide hb
                  have Hok := hide (hiff.out.1 hb)
                  clear hb
                  go_wp2_with (go_at_call 41; refine (Hans.out).mono ?_; rw [Hb.out]; rintro e w5 ⟨rfl, hx5⟩)
                  go_roundw
                  case rel => exact ⟨x + 1, by omega, by go_num, ch, S, rfl, own_ext hown hx5, hI, hext.trans hx5, hfrm.ext hx5, fun hch => ⟨(hno hch).1, (hno hch).2.1, fun y hy i hi => by
                    rcases Nat.lt_or_ge y x with h1 | h1
                    · exact (hno hch).2.2 y h1 i hi
                    · obtain rfl : y = x := by omega
                      have hji := hj.out
                      rw [hi] at hji
                      obtain rfl := Option.some.inj hji
                      have := Hok.out
                      rw [(hno hch).1] at this
                      exact this⟩, hyes, fun y hy i hi => hleft y (by omega) i hi, hcov⟩
                  case measure => simp [intOf]; omega
              · obtain rfl : x = ks.length := by omega
                go_wp2
                go_roundw
                case rel => exact ⟨k + 1, by omega, by go_num, ch, S, rfl, hown, hI, hext, fun hch => ⟨(hno hch).1, fun i j hi hr => by
                  rcases Nat.lt_or_ge i k with h1 | h1
                  · exact (hno hch).2.1 i j h1 hr
                  · obtain rfl : i = k := by omega
                    obtain ⟨y, hy⟩ := hcov hch j hr
                    exact (hno hch).2.2 y (List.getElem?_eq_some_iff.1 hy).1 j hy⟩, hyes⟩
                case measure => simp [intOf]; omega
          · obtain rfl : p = k := by omega
            cases ch
            · obtain ⟨rfl, hpost⟩ := hno rfl
              have Hpost := hide hpost
              clear hpost hno hyes
              go_wp2
              go_ret
              have hpost := Hpost.out
              exact ⟨g, S, rfl, hown, ⟨hI, fun i j hr => hpost i j (by have := hr.1; have := hI.len; omega) hr⟩, hw2.trans hext⟩
            · have h1 := hide (hyes rfl)
              clear hno hyes
              go_wp2
              go_roundw
              case rel => exact ⟨S, hown, hI, hext⟩
              case measure =>
                rw [sumAt_eq hown, hsum.out]
                exact h1.out
end Go.Proofs.YtdeopnjheeekcaaDoor
