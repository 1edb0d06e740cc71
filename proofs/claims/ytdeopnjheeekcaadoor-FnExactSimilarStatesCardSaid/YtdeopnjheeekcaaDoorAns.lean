/- impl.answers, walked. -/
import Derived.Test.YtdeopnjheeekcaaDoorSucc
namespace Go.Proofs.YtdeopnjheeekcaaDoor
open Go Go.RowKit
set_option maxHeartbeats 2000000

theorem Reads.nat {w : World} {lo hi n k : Nat} {A : Option Addr} {l : List Nat} (h : Reads w lo hi 1 A n (nats l)) (hk : k < n) : ∃ ad x, A = some ad ∧ lo ≤ ad.block ∧ ad.block < hi ∧ Hid (l[k]? = some x) ∧ w.cell? (ad.add k) = some (.int .i64 (x : Nat)) := by
  have e : nats l = ints (l.map fun n : Nat => (n : Int)) := by simp [nats, ints]
  rw [e] at h
  obtain ⟨ad, x, ha, hl, hh, hx, hc⟩ := h.int hk
  have hx' := hx.out
  rw [List.getElem?_map] at hx'
  cases hq : l[k]? with
  | none => rw [hq] at hx'; simp at hx'
  | some q =>
    rw [hq] at hx'
    simp at hx'
    exact ⟨ad, q, ha, hl, hh, rfl, by rw [hc, hx']⟩

/-- The block b holds the moves of these edges. -/
def MovAt (w : World) (b : Nat) (es : List Edg) : Prop := ∀ i l : Nat, i < 16 → l < 6 → w.cell? ⟨b, i * 6 + l, none⟩ = some (.int .i64 (succ es i l : Nat))
theorem MovAt.ext {w w' : World} {b : Nat} {es : List Edg} (h : MovAt w b es) (hb : Ext w w') : MovAt w' b es := fun i l hi hl => hb.cell_some (h i l hi hl)

theorem bits_andNot {a b : Nat} (ha : Sm a) (hb : Sm b) : bits .andNot .i64 (a : Int) (b : Int) = (diff a b : Nat) := by
  have h1 := ha.lt; have h2 := hb.lt
  have hd := diff_le a b
  show IntKind.i64.wrap ((BitVec.ofInt 64 (a : Int) &&& ~~~ BitVec.ofInt 64 (b : Int)).toNat : Int) = _
  have e : (BitVec.ofInt 64 (a : Int) &&& ~~~ BitVec.ofInt 64 (b : Int)).toNat = diff a b := by
    apply Nat.eq_of_testBit_eq
    intro k
    rw [diff_bit, BitVec.toNat_and, Nat.testBit_and, i64_toNat a (by omega), BitVec.testBit_toNat, BitVec.getLsbD_not, ← BitVec.testBit_toNat, i64_toNat b (by omega)]
    by_cases hk : k < 64
    · simp [hk]
    · simp only [hk, decide_false, Bool.false_and, Bool.and_false]
      rw [testBit_small ha (by omega)]; rfl
  rw [e, IntKind.wrap_i64]
  omega

theorem impl_answers_f {es es' : List Edg} {bm bn lo hi n c i j k1 k2 : Nat} {A : Option Addr} {R : List Nat} {w : World} (hm : MovAt w bm es) (hn : MovAt w bn es') (hR : Reads w lo hi 1 A n (nats R)) (hs : ∀ r ∈ R, Sm r) (hT : Tab w)
    (hi : i < 16) (hj : j < 16) (h : Few k1 es) (h' : Few k2 es') (hk1 : k1 ≤ 16) (hk2 : k2 ≤ 16) (hl : k1 ≤ R.length) :
    Calls Tryd.prog 41 #[.pointer (some ⟨bm, 0, none⟩), .pointer (some ⟨bn, 0, none⟩), .slice A n c, .int .i64 i, .int .i64 j, .bool false] w fun e w' => e = .returned (.bool (ansB false es es' R i j)) ∧ Ext w w' := by
  have hlen := hide (show R.length = n by have := hR.length; rw [nats_length] at this; omega)
  have hA := hide (show ansB false es es' R i j = (List.range 6).all (ansL false es es' R i j) from rfl)
  have Hs := hide hs
  clear hs
  have hn' := hR.len
  go_enter Tryd.func41, Tryd.ntmps41
  go_wp2
  go_loopw [17] (fun v wr => ∃ l : Nat, l ≤ 6 ∧ v = .int .i64 l ∧ Hid ((List.range l).all (ansL false es es' R i j) = true) ∧ Ext w wr) (fun v _ => 6 - (intOf v).toNat)
  case atStart => exact ⟨0, Nat.zero_le _, rfl, rfl, Ext.refl _⟩
  case round =>
    obtain ⟨l, hl6, rfl, hall, hext⟩ := hrel
    by_cases hlt : l < 6
    · have c1 := (hm.ext hext) i l hi hlt
      have c2 := (hn.ext hext) j l hj hlt
      have s1 := succ_sm h hk1 i l
      have s2 := succ_sm h' hk2 j l
      have hT' := hT.ext hext
      go_wp2_with (go_at_call 35; refine (impl_members _ s1 _ hT').mono ?_; rintro e w1 ⟨B, d, rfl, hown, hx1⟩)
      have hkL := letters_length (succ es i l) 32
      have hkm : ∀ k, k ∈ letters (succ es i l) 32 → k < R.length := fun k hk => by
        obtain ⟨e, he, _, h3⟩ := (succ_bit es i l k).1 (mem_letters.1 hk).2
        have := h e he
        omega
      have Hkm := hide hkm
      clear hkm
      have hL := hide (show ansL false es es' R i j l = ((letters (succ es i l) 32).all (fun k => !(R.getD k 0 &&& succ es' j l == 0)) && !(false && diff (succ es' j l) (orAll R (letters (succ es i l) 32)) != 0)) from rfl)
      have hext1 := hext.trans hx1
      have hrd := hown
      replace hrd := Reads.of_own hrd
      clear hown
      generalize letters (succ es i l) 32 = ks at *
      go_loopw [14, 29] (fun v q wr => ∃ x : Nat, x ≤ ks.length ∧ q = .int .i64 x ∧ ∃ y : Nat, v = .int .i64 y ∧ Sm y ∧ Hid (y = orAll R (ks.take x)) ∧ Hid ((ks.take x).all (fun k => !(R.getD k 0 &&& succ es' j l == 0)) = true) ∧ Ext w1 wr) (fun _ q _ => ks.length - (intOf q).toNat)
      case atStart => exact ⟨0, Nat.zero_le _, rfl, 0, rfl, by unfold Sm; omega, rfl, rfl, Ext.refl _⟩
      case round =>
        obtain ⟨x, hxl, rfl, y, rfl, hy, hyo, hya, hext2⟩ := hrel
        have hw2 := hext1.trans hext2
        have d2 := hext2.cell_some (hx1.cell_some c2)
        by_cases hlx : x < ks.length
        · obtain ⟨ad, k, rfl, _, _, hk, hkc⟩ := (hrd.ext hext2).nat hlx
          have hkn : k < n := by have := Hkm.out k (List.mem_of_getElem? hk.out); have := hlen.out; omega
          obtain ⟨ad', r, rfl, _, _, hr, hrc⟩ := (hR.ext hw2).nat hkn
          have hrs := Hs.out r (List.mem_of_getElem? hr.out)
          have ba := hide (bits_and hrs s2)
          have bo := hide (bits_or hy hrs)
          have hrd' : R.getD k 0 = r := by rw [List.getD_eq_getElem?_getD, hr.out]; rfl
          have Hrd := hide hrd'
          clear hrd'
          have htk := hide (show ks.take (x + 1) = ks.take x ++ [k] by rw [List.take_add_one, hk.out]; rfl)
          by_cases hz : r &&& succ es' j l = 0
          · have hz' : (bits .and .i64 (r : Int) (succ es' j l : Nat) == 0) = true := by rw [ba.out, hz]; rfl
            have Hz := hide hz
            clear hz
            go_wp2
            go_quiet (fail)
            go_wp2
            go_ret
            refine ⟨ret_bool ?_, hw2.drewN _⟩
            have hno : ansL false es es' R i j l = false := by
              rw [hL.out, show ks.all (fun k => !(R.getD k 0 &&& succ es' j l == 0)) = false from ?_]
              · rfl
              · rw [Bool.eq_false_iff]
                intro hc
                have := List.all_eq_true.1 hc k (List.mem_of_getElem? hk.out)
                rw [Hrd.out, Hz.out] at this
                simp at this
            rw [hA.out]
            refine (Bool.eq_false_iff.2 fun hc => ?_).symm
            have := List.all_eq_true.1 hc l (List.mem_range.2 hlt)
            rw [hno] at this
            simp at this
          · have hz' : (bits .and .i64 (r : Int) (succ es' j l : Nat) == 0) = false := by rw [ba.out]; simp; omega
            have Hz := hide hz
            clear hz
            go_wp2
            go_quiet (fail)
            have e1 := (Ext.refl wr).drewN 1
            go_wp2
            go_roundw
            case rel => exact ⟨x + 1, by omega, by go_num, y ||| r, by rw [bo.out], hy.or hrs, by unfold Hid; rw [htk.out, orAll_snoc, ← hyo.out, Hrd.out], by
              have hf : (R.getD k 0 &&& succ es' j l == 0) = false := by rw [Hrd.out]; simpa using Hz.out
              unfold Hid
              rw [htk.out, List.all_append, hya.out]
              simp only [List.all_cons, List.all_nil, hf]; rfl, hext2.drewN _⟩
            case measure => simp [intOf]; omega
        · obtain rfl : x = ks.length := by omega
          rw [List.take_length] at hyo hya
          have bd := hide (bits_andNot s2 hy)
          have hLL := hide (show ansL false es es' R i j l = !(false && diff (succ es' j l) y != 0) by rw [hL.out, hya.out, Bool.true_and, ← hyo.out])
          have hz : (false && diff (succ es' j l) y != 0) = false := rfl
          have hrel : Hid ((List.range (l + 1)).all (ansL false es es' R i j) = true) := by
            unfold Hid
            rw [List.range_succ, List.all_append, hall.out]
            simp only [List.all_cons, List.all_nil, Bool.and_true, Bool.true_and]
            rw [hLL.out, hz]; rfl
          clear hz
          go_wp2
          go_roundw
          case rel => exact ⟨l + 1, by omega, by go_num, hrel, hw2⟩
          case measure => simp [intOf]; omega
    · obtain rfl : l = 6 := by omega
      go_wp2
      go_ret
      exact ⟨ret_bool (by rw [hA.out, hall.out]), hext⟩

theorem impl_answers_t {es es' : List Edg} {bm bn lo hi n c i j k1 k2 : Nat} {A : Option Addr} {R : List Nat} {w : World} (hm : MovAt w bm es) (hn : MovAt w bn es') (hR : Reads w lo hi 1 A n (nats R)) (hs : ∀ r ∈ R, Sm r) (hT : Tab w)
    (hi : i < 16) (hj : j < 16) (h : Few k1 es) (h' : Few k2 es') (hk1 : k1 ≤ 16) (hk2 : k2 ≤ 16) (hl : k1 ≤ R.length) :
    Calls Tryd.prog 41 #[.pointer (some ⟨bm, 0, none⟩), .pointer (some ⟨bn, 0, none⟩), .slice A n c, .int .i64 i, .int .i64 j, .bool true] w fun e w' => e = .returned (.bool (ansB true es es' R i j)) ∧ Ext w w' := by
  have hlen := hide (show R.length = n by have := hR.length; rw [nats_length] at this; omega)
  have hA := hide (show ansB true es es' R i j = (List.range 6).all (ansL true es es' R i j) from rfl)
  have Hs := hide hs
  clear hs
  have hn' := hR.len
  go_enter Tryd.func41, Tryd.ntmps41
  go_wp2
  go_loopw [17] (fun v wr => ∃ l : Nat, l ≤ 6 ∧ v = .int .i64 l ∧ Hid ((List.range l).all (ansL true es es' R i j) = true) ∧ Ext w wr) (fun v _ => 6 - (intOf v).toNat)
  case atStart => exact ⟨0, Nat.zero_le _, rfl, rfl, Ext.refl _⟩
  case round =>
    obtain ⟨l, hl6, rfl, hall, hext⟩ := hrel
    by_cases hlt : l < 6
    · have c1 := (hm.ext hext) i l hi hlt
      have c2 := (hn.ext hext) j l hj hlt
      have s1 := succ_sm h hk1 i l
      have s2 := succ_sm h' hk2 j l
      have hT' := hT.ext hext
      go_wp2_with (go_at_call 35; refine (impl_members _ s1 _ hT').mono ?_; rintro e w1 ⟨B, d, rfl, hown, hx1⟩)
      have hkL := letters_length (succ es i l) 32
      have hkm : ∀ k, k ∈ letters (succ es i l) 32 → k < R.length := fun k hk => by
        obtain ⟨e, he, _, h3⟩ := (succ_bit es i l k).1 (mem_letters.1 hk).2
        have := h e he
        omega
      have Hkm := hide hkm
      clear hkm
      have hL := hide (show ansL true es es' R i j l = ((letters (succ es i l) 32).all (fun k => !(R.getD k 0 &&& succ es' j l == 0)) && !(true && diff (succ es' j l) (orAll R (letters (succ es i l) 32)) != 0)) from rfl)
      have hext1 := hext.trans hx1
      have hrd := hown
      replace hrd := Reads.of_own hrd
      clear hown
      generalize letters (succ es i l) 32 = ks at *
      go_loopw [14, 29] (fun v q wr => ∃ x : Nat, x ≤ ks.length ∧ q = .int .i64 x ∧ ∃ y : Nat, v = .int .i64 y ∧ Sm y ∧ Hid (y = orAll R (ks.take x)) ∧ Hid ((ks.take x).all (fun k => !(R.getD k 0 &&& succ es' j l == 0)) = true) ∧ Ext w1 wr) (fun _ q _ => ks.length - (intOf q).toNat)
      case atStart => exact ⟨0, Nat.zero_le _, rfl, 0, rfl, by unfold Sm; omega, rfl, rfl, Ext.refl _⟩
      case round =>
        obtain ⟨x, hxl, rfl, y, rfl, hy, hyo, hya, hext2⟩ := hrel
        have hw2 := hext1.trans hext2
        have d2 := hext2.cell_some (hx1.cell_some c2)
        by_cases hlx : x < ks.length
        · obtain ⟨ad, k, rfl, _, _, hk, hkc⟩ := (hrd.ext hext2).nat hlx
          have hkn : k < n := by have := Hkm.out k (List.mem_of_getElem? hk.out); have := hlen.out; omega
          obtain ⟨ad', r, rfl, _, _, hr, hrc⟩ := (hR.ext hw2).nat hkn
          have hrs := Hs.out r (List.mem_of_getElem? hr.out)
          have ba := hide (bits_and hrs s2)
          have bo := hide (bits_or hy hrs)
          have hrd' : R.getD k 0 = r := by rw [List.getD_eq_getElem?_getD, hr.out]; rfl
          have Hrd := hide hrd'
          clear hrd'
          have htk := hide (show ks.take (x + 1) = ks.take x ++ [k] by rw [List.take_add_one, hk.out]; rfl)
          by_cases hz : r &&& succ es' j l = 0
          · have hz' : (bits .and .i64 (r : Int) (succ es' j l : Nat) == 0) = true := by rw [ba.out, hz]; rfl
            have Hz := hide hz
            clear hz
            go_wp2
            go_quiet (fail)
            go_wp2
            go_ret
            refine ⟨ret_bool ?_, hw2.drewN _⟩
            have hno : ansL true es es' R i j l = false := by
              rw [hL.out, show ks.all (fun k => !(R.getD k 0 &&& succ es' j l == 0)) = false from ?_]
              · rfl
              · rw [Bool.eq_false_iff]
                intro hc
                have := List.all_eq_true.1 hc k (List.mem_of_getElem? hk.out)
                rw [Hrd.out, Hz.out] at this
                simp at this
            rw [hA.out]
            refine (Bool.eq_false_iff.2 fun hc => ?_).symm
            have := List.all_eq_true.1 hc l (List.mem_range.2 hlt)
            rw [hno] at this
            simp at this
          · have hz' : (bits .and .i64 (r : Int) (succ es' j l : Nat) == 0) = false := by rw [ba.out]; simp; omega
            have Hz := hide hz
            clear hz
            go_wp2
            go_quiet (fail)
            have e1 := (Ext.refl wr).drewN 1
            go_wp2
            go_roundw
            case rel => exact ⟨x + 1, by omega, by go_num, y ||| r, by rw [bo.out], hy.or hrs, by unfold Hid; rw [htk.out, orAll_snoc, ← hyo.out, Hrd.out], by
              have hf : (R.getD k 0 &&& succ es' j l == 0) = false := by rw [Hrd.out]; simpa using Hz.out
              unfold Hid
              rw [htk.out, List.all_append, hya.out]
              simp only [List.all_cons, List.all_nil, hf]; rfl, hext2.drewN _⟩
            case measure => simp [intOf]; omega
        · obtain rfl : x = ks.length := by omega
          rw [List.take_length] at hyo hya
          have bd := hide (bits_andNot s2 hy)
          have hLL := hide (show ansL true es es' R i j l = !(true && diff (succ es' j l) y != 0) by rw [hL.out, hya.out, Bool.true_and, ← hyo.out])
          by_cases hd : diff (succ es' j l) y = 0
          · have hz : (true && diff (succ es' j l) y != 0) = false := by rw [hd]; rfl
            have hz2 : (bits .andNot .i64 (succ es' j l : Nat) (y : Nat) != 0) = false := by rw [bd.out, hd]; rfl
            have hrel : Hid ((List.range (l + 1)).all (ansL true es es' R i j) = true) := by
              unfold Hid
              rw [List.range_succ, List.all_append, hall.out]
              simp only [List.all_cons, List.all_nil, Bool.and_true, Bool.true_and]
              rw [hLL.out, hz]; rfl
            clear hz hd
            go_wp2
            go_roundw
            case rel => exact ⟨l + 1, by omega, by go_num, hrel, hw2⟩
            case measure => simp [intOf]; omega
          · have hz2 : (bits .andNot .i64 (succ es' j l : Nat) (y : Nat) != 0) = true := by rw [bd.out]; simp; omega
            have hno := hLL.out
            rw [show (true && diff (succ es' j l) y != 0) = true by simp [hd]] at hno
            have Hno := hide hno
            clear hno hd
            go_wp2
            go_ret
            refine ⟨ret_bool ?_, hw2⟩
            rw [hA.out]
            refine (Bool.eq_false_iff.2 fun hc => ?_).symm
            have := List.all_eq_true.1 hc l (List.mem_range.2 hlt)
            rw [Hno.out] at this
            simp at this
    · obtain rfl : l = 6 := by omega
      go_wp2
      go_ret
      exact ⟨ret_bool (by rw [hA.out, hall.out]), hext⟩

theorem impl_answers {both : Bool} {es es' : List Edg} {bm bn lo hi n c i j k1 k2 : Nat} {A : Option Addr} {R : List Nat} {w : World} (hm : MovAt w bm es) (hn : MovAt w bn es') (hR : Reads w lo hi 1 A n (nats R)) (hs : ∀ r ∈ R, Sm r) (hT : Tab w)
    (hi : i < 16) (hj : j < 16) (h : Few k1 es) (h' : Few k2 es') (hk1 : k1 ≤ 16) (hk2 : k2 ≤ 16) (hl : k1 ≤ R.length) :
    Calls Tryd.prog 41 #[.pointer (some ⟨bm, 0, none⟩), .pointer (some ⟨bn, 0, none⟩), .slice A n c, .int .i64 i, .int .i64 j, .bool both] w fun e w' => e = .returned (.bool (ansB both es es' R i j)) ∧ Ext w w' := by
  cases both
  · exact impl_answers_f hm hn hR hs hT hi hj h h' hk1 hk2 hl
  · exact impl_answers_t hm hn hR hs hT hi hj h h' hk1 hk2 hl
end Go.Proofs.YtdeopnjheeekcaaDoor
