/- spec.l15Relate, walked. -/
import Derived.Test.YtdeopnjheeekcaaDoorFolLaw
import Derived.Test.YtdeopnjheeekcaaDoorBak
import Derived.Test.YtdeopnjheeekcaaDoorGr
namespace Go.Proofs.YtdeopnjheeekcaaDoor
open Go Go.RowKit
set_option maxHeartbeats 4000000

theorem own_some {w : World} {base : Nat} {e : TypeId} {size n : Nat} {v : Value} {xs : List Value} (h : w.ownsRow base e size v n xs) (hn : 0 < n) : ∃ g c, v = .slice (some ⟨g, 0, none⟩) n c ∧ base ≤ g := by
  rcases h.2 with ⟨_, h0⟩ | ⟨g, cap, cur, hv, hg, _⟩
  · omega
  · exact ⟨g, cap, hv, hg⟩
theorem ok_false {es es' : List Edg} {p q : Nat} {R : List Nat} {i j : Nat} (h : Few p es) (h' : Few q es') : Ok false es es' (rel R) i j ↔ es.all (folE es' R i j) = true := by
  rw [fol_iff h h']
  exact ⟨fun x => x.1, fun x => ⟨x, fun h => by cases h⟩⟩
theorem ok_true {es es' : List Edg} {p q : Nat} {R : List Nat} {i j : Nat} (h : Few p es) (h' : Few q es') : Ok true es es' (rel R) i j ↔ es.all (folE es' R i j) = true ∧ es'.all (bakE p es R i j) = true := by
  rw [fol_iff h h', bak_iff h h']
  exact ⟨fun x => ⟨x.1, x.2 rfl⟩, fun x => ⟨x.1, fun _ => x.2⟩⟩
theorem replicate_push (k v : Nat) : nats (List.replicate k v) ++ [Value.int .i64 (v : Nat)] = nats (List.replicate (k + 1) v) := by rw [List.replicate_succ', nats_append]; rfl
/-- One for true. -/
def boolN : Value → Nat
  | .bool true => 1
  | _ => 0
/-- What spec.l15Relate hands back. -/
def RetRel (w : World) (both : Bool) (s t : Sys) (p q : Nat) (e : Ending) (w' : World) : Prop :=
  ∃ g c R, e = .returned (.slice (some ⟨g, 0, none⟩) p c) ∧ w'.ownsRow w.heap.size 3 1 (.slice (some ⟨g, 0, none⟩) p c) p (nats R) ∧ Gfp both s.edges t.edges p q R ∧ Ext w w'

theorem spec_l15Relate_false {lo hi lo' hi' : Nat} {A : Option Addr} {n c : Nat} {B : Option Addr} {m d : Nat} {s t : Sys} {p q : Nat} {w : World} (h : SysAt w lo hi A n s) (h' : SysAt w lo' hi' B m t)
    (hsp : s.st = p) (htq : t.st = q) (hp1 : 1 ≤ p) (hp : p ≤ 16) (hq : q ≤ 16) (hf : Few p s.edges) (hg : Few q t.edges) :
    Calls Tryd.prog 25 #[.agg #[.int .i64 s.al, .int .i64 s.st, .slice A n c], .agg #[.int .i64 t.al, .int .i64 t.st, .slice B m d], .bool false] w (RetRel w false s t p q) := by
  have HS := hide (fun W (hW : Ext w W) => h.ext hW)
  have HT := hide (fun W (hW : Ext w W) => h'.ext hW)
  have Hf := hide hf
  have Hg := hide hg
  clear h h' hf hg
  rw [hsp, htq]
  go_enter Tryd.func25, Tryd.ntmps25
  go_wp2_with fail
  have hext0 := ((Ext.refl w).alloc (.cells #[.int .i64 s.al, .int .i64 p, .slice A n c] 29)).alloc (.cells #[.int .i64 t.al, .int .i64 q, .slice B m d] 29)
  have hb1 := Blk.new w 29 #[.int .i64 s.al, .int .i64 p, .slice A n c]
  have hb2 := Blk.new (w.alloc (.cells #[.int .i64 s.al, .int .i64 p, .slice A n c] 29)) 29 #[.int .i64 t.al, .int .i64 q, .slice B m d]
  replace hb1 := hb1.ext ((Ext.refl _).alloc (.cells #[.int .i64 t.al, .int .i64 q, .slice B m d] 29))
  have hsz : w.heap.size + 1 + 1 = ((w.alloc (.cells #[.int .i64 s.al, .int .i64 p, .slice A n c] 29)).alloc (.cells #[.int .i64 t.al, .int .i64 q, .slice B m d] 29)).heap.size := by simp
  rw [show (w.alloc (.cells #[.int .i64 s.al, .int .i64 p, .slice A n c] 29)).heap.size = w.heap.size + 1 by simp] at hb2
  generalize (w.alloc (.cells #[.int .i64 s.al, .int .i64 p, .slice A n c] 29)).alloc (.cells #[.int .i64 t.al, .int .i64 q, .slice B m d] 29) = w0 at *
  have Hsz := hide hsz
  clear hsz
  obtain ⟨z, hz⟩ : ∃ z : Nat, Hid (2 ^ q = z) := ⟨_, rfl⟩
  have hz1 : 1 ≤ z := by have := Nat.two_pow_pos q; have := hz.out; omega
  have hz2 : z ≤ 65536 := by rw [← hz.out, show (65536 : Nat) = 2 ^ 16 from rfl]; exact Nat.pow_le_pow_right (by omega) hq
  have CB : ∀ W, Calls Tryd.prog 36 #[.int .i64 q] W fun e w' => e = .returned (.int .i64 (z : Nat)) ∧ W = w' := fun W => by rw [← hz.out]; exact spec_l1Bit q (by omega) W
  have CB' := hide CB
  clear CB
  go_loopw [7, 8] (fun v i wr => ∃ k : Nat, k ≤ p ∧ i = .int .i64 k ∧ wr.ownsRow w0.heap.size 3 1 v k (nats (List.replicate k (z - 1))) ∧ Ext w0 wr) (fun _ i _ => p - (intOf i).toNat)
  case atStart => exact ⟨0, Nat.zero_le _, rfl, by rw [Hsz.out]; exact World.ownsRow_lit w0 #[] 0 (Nat.le_refl _) (by unfold maxLen; omega) rfl, (Ext.refl _).alloc _⟩
  case round =>
    obtain ⟨k, hk, rfl, hown, hext⟩ := hrel
    have e1 := (hb1.ext hext).cell
    have e2 := (hb2.ext hext).cell
    by_cases hlt : k < p
    · have hcast := hide (show ((z : Int) - 1) = ((z - 1 : Nat) : Int) by omega)
      go_wp2_with (first
        | (go_at_call 36; refine (CB'.out _).mono ?_; rintro e w' ⟨rfl, rfl⟩)
        | (at_builtin; refine wpList_push w0 wr rfl _ _ _ rfl 3 _ 1 8 Tryd.underlying32 info_int rfl (by decide) u7 _ _ _ _ rfl rfl hext hown rfl (cells_int _) (by unfold maxLen; omega) (by omega) ?_; intro v' w1 hext1 hown1 hg1 hat1))
      go_roundw
      case rel => exact ⟨k + 1, by omega, by go_num, by rw [hcast.out, show (#[Value.int .i64 ((z - 1 : Nat) : Int)] : Array Value).toList = [Value.int .i64 ((z - 1 : Nat) : Int)] from rfl, replicate_push] at hown1; exact hown1, by assumption⟩
      case measure => simp [intOf]; omega
    · obtain rfl : p = k := by omega
      obtain ⟨g, c2, rfl, hgb⟩ := own_some hown (by omega)
      have hI := Inv.start false s.edges t.edges p q
      rw [hz.out] at hI
      obtain ⟨w2, rfl⟩ : ∃ w2 : World, w2 = wr := ⟨_, rfl⟩
      generalize List.replicate p (z - 1) = R0 at hown hI
      have hx02 := hext
      have CF : ∀ (W : World) (S : List Nat) (k x : Nat), Ext w0 W → W.ownsRow w0.heap.size 3 1 (.slice (some ⟨g, 0, none⟩) p c2) p (nats S) → (∀ r ∈ S, Sm r) → S.length = p → x < 32 →
          Calls Tryd.prog 37 #[.agg #[.int .i64 s.al, .int .i64 p, .slice A n c], .agg #[.int .i64 t.al, .int .i64 q, .slice B m d], .slice (some ⟨g, 0, none⟩) p c2, .int .i64 k, .int .i64 x] W fun e w' => e = .returned (.bool (s.edges.all (folE t.edges S k x))) ∧ Ext W w' := by
        intro W S k x hW ho hs hl hx
        rw [← hsp, ← htq]
        exact spec_l15Follows (HS.out W (hext0.trans hW)) (HT.out W (hext0.trans hW)) (Reads.of_own ho) hs Hf.out Hg.out hp hq hx (by omega)
      have CK : ∀ (W : World) (S : List Nat) (k x : Nat), Ext w0 W → W.ownsRow w0.heap.size 3 1 (.slice (some ⟨g, 0, none⟩) p c2) p (nats S) → (∀ r ∈ S, Sm r) → S.length = p → k < 32 →
          Calls Tryd.prog 38 #[.agg #[.int .i64 s.al, .int .i64 p, .slice A n c], .agg #[.int .i64 t.al, .int .i64 q, .slice B m d], .slice (some ⟨g, 0, none⟩) p c2, .int .i64 k, .int .i64 x] W fun e w' => e = .returned (.bool (t.edges.all (bakE p s.edges S k x))) ∧ Ext W w' := by
        intro W S k x hW ho hs hl hk
        rw [← hsp, ← htq]
        exact spec_l15Backs (HS.out W (hext0.trans hW)) (HT.out W (hext0.trans hW)) (Reads.of_own ho) hs hsp Hf.out Hg.out hp hq hk hl
      have CF' := hide CF
      have CK' := hide CK
      clear CF CK hlt hk
      go_wp2_with fail
      clear e1 e2
      go_loopw [9] (fun v wr => ∃ (b : Bool) (R : List Nat), v = .bool b ∧ wr.ownsRow w0.heap.size 3 1 (.slice (some ⟨g, 0, none⟩) p c2) p (nats R) ∧ Inv false s.edges t.edges p q R ∧ Ext w0 wr ∧ Hid (b = false → ∀ i j, rel R i j → Ok false s.edges t.edges (rel R) i j)) (fun v wr => boolN v + 2 * sumAt wr g p)
      case atStart => exact ⟨true, R0, rfl, hown, hI, hext, fun h => by cases h⟩
      case round =>
        clear hown hI hext
        obtain ⟨b, R, rfl, hown, hI, hext, hfin⟩ := hrel
        have hsum := hide (sumAt_eq hown)
        cases b
        · have Hfin := hide (hfin rfl)
          clear hfin
          go_wp2_with fail
          go_ret
          exact ⟨g, c2, R, rfl, own_less hown hext0.size, ⟨hI, Hfin.out⟩, hext0.trans hext⟩
        · clear hfin
          go_wp2_with fail
          go_loopw [9, 10] (fun v i wr => ∃ k : Nat, k ≤ p ∧ i = .int .i64 k ∧ ∃ (ch : Bool) (S : List Nat), v = .bool ch ∧ wr.ownsRow w0.heap.size 3 1 (.slice (some ⟨g, 0, none⟩) p c2) p (nats S) ∧ Inv false s.edges t.edges p q S ∧ Ext w0 wr
            ∧ Hid (ch = false → S = R ∧ ∀ i j, i < k → rel R i j → Ok false s.edges t.edges (rel R) i j) ∧ Hid (ch = true → S.sum < R.sum)) (fun _ i _ => p - (intOf i).toNat)
          case atStart => exact ⟨0, Nat.zero_le _, rfl, false, R, rfl, hown, hI, hext, fun _ => ⟨rfl, fun i j hi => by omega⟩, fun h => by cases h⟩
          case round =>
            clear hown hI hext
            obtain ⟨k, hk, rfl, ch, S, rfl, hown, hI, hext, hno, hyes⟩ := hrel
            have e1 := (hb1.ext hext).cell
            by_cases hlt : k < p
            · go_wp2_with fail
              clear e1
              go_loopw [9, 11] (fun v i wr => ∃ x : Nat, x ≤ q ∧ i = .int .i64 x ∧ ∃ (ch : Bool) (S : List Nat), v = .bool ch ∧ wr.ownsRow w0.heap.size 3 1 (.slice (some ⟨g, 0, none⟩) p c2) p (nats S) ∧ Inv false s.edges t.edges p q S ∧ Ext w0 wr
                ∧ Hid (ch = false → S = R ∧ (∀ i j, i < k → rel R i j → Ok false s.edges t.edges (rel R) i j) ∧ ∀ j, j < x → rel R k j → Ok false s.edges t.edges (rel R) k j) ∧ Hid (ch = true → S.sum < R.sum)) (fun _ i _ => q - (intOf i).toNat)
              case atStart => exact ⟨0, Nat.zero_le _, rfl, ch, S, rfl, hown, hI, hext, fun h => ⟨(hno h).1, (hno h).2, fun j hj => by omega⟩, hyes⟩
              case round =>
                clear hown hI hext hno hyes
                obtain ⟨x, hxq, rfl, ch, S, rfl, hown, hI, hext, hno, hyes⟩ := hrel
                have e2 := (hb2.ext hext).cell
                by_cases hlx : x < q
                · have hSl : S.length = p := hI.len
                  have hSm : ∀ r ∈ S, Sm r := fun r hr => Nat.lt_of_lt_of_le (hI.small r hr) (by rw [show (4294967296 : Nat) = 2 ^ 32 from rfl]; exact Nat.pow_le_pow_right (by omega) (by omega))
                  obtain ⟨v, hv⟩ : ∃ v, S[k]? = some v := ⟨_, List.getElem?_eq_getElem (by omega)⟩
                  have hvD : S.getD k 0 = v := by rw [List.getD_eq_getElem?_getD, hv]; rfl
                  have hvs := hSm v (List.mem_of_getElem? hv)
                  have hc0 : wr.cell? ⟨g, k, none⟩ = some (.int .i64 (v : Nat)) := by rw [hown.cellAt k (by omega)]; simp [nats, hv]
                  have Hv := hide hv
                  have HvD := hide hvD
                  have HSm := hide hSm
                  have HSl := hide hSl
                  clear hv hvD hSm hSl
                  have e1 := (hb1.ext hext).cell
                  cases hb1' : v.testBit x
                  · have Hb1 := hide hb1'
                    clear hb1'
                    go_wp2_with (go_at_call 24; refine (spec_l1Has v x hvs _ (by omega)).mono ?_; rw [Hb1.out]; rintro e w' ⟨rfl, rfl⟩)
                    go_roundw
                    case rel => exact ⟨x + 1, by omega, by go_num, ch, S, rfl, hown, hI, hext, fun hch => ⟨(hno hch).1, (hno hch).2.1, fun j hj hr => by
                      rcases Nat.lt_or_ge j x with h1 | h1
                      · exact (hno hch).2.2 j h1 hr
                      · obtain rfl : j = x := by omega
                        have := hr.2
                        rw [← (hno hch).1, HvD.out, Hb1.out] at this
                        cases this⟩, hyes⟩
                    case measure => simp [intOf]; omega
                  · have Hb1 := hide hb1'
                    have Hrel := hide (show rel S k x from ⟨by have := HSl.out; omega, by rw [HvD.out]; exact hb1'⟩)
                    clear hb1'
                    have hCF := hide (CF'.out wr S k x hext hown HSm.out HSl.out (by omega))
                    cases hfo : s.edges.all (folE t.edges S k x)
                    · have Hfo := hide hfo
                      clear hfo
                      have Hnok := hide (show ¬ Ok false s.edges t.edges (rel S) k x from fun h => by have := (ok_false Hf.out Hg.out).1 h; rw [Hfo.out] at this; simp at this)
                      go_wp2_with (first | (go_at_call 24; refine (spec_l1Has v x hvs _ (by omega)).mono ?_; rw [Hb1.out]; rintro e w' ⟨rfl, rfl⟩) | (go_at_call 37; with_reducible refine (hCF.out).mono ?_; rw [Hfo.out]; rintro e w5 ⟨rfl, hx5⟩))
                      have hvb : v.testBit x = true := Hb1.out
                      have hle := Nat.ge_two_pow_of_testBit hvb
                      have hd := hide (hI.drop Hrel.out Hnok.out)
                      have hsd := hide (sum_drop_lt Hrel.out)
                      rw [HvD.out] at hd hsd
                      obtain ⟨y, hy⟩ : ∃ y : Nat, Hid (2 ^ x = y) := ⟨_, rfl⟩
                      have CY := hide (show ∀ W, Calls Tryd.prog 36 #[.int .i64 x] W fun e w' => e = .returned (.int .i64 (y : Nat)) ∧ W = w' from fun W => by rw [← hy.out]; exact spec_l1Bit x (by omega) W)
                      rw [hy.out] at hd hsd hle
                      have hvi : (v : Int) < 4294967296 := by have := hvs.lt; omega
                      have hcast := hide (show ((v : Int) - (y : Int)) = ((v - y : Nat) : Int) by omega)
                      generalize hw8e : w5 = w8
                      have hx8 : Ext wr w8 := by rw [← hw8e]; exact hx5
                      clear hw8e
                      have hown8 := own_ext hown hx8
                      have hst := hown8.stored k (.int .i64 ((v - y : Nat) : Nat))
                      rw [← nats_set] at hst
                      have hc8 : w8.drew.cell? ⟨g, k, none⟩ = some (.int .i64 (v : Nat)) := hx8.cell_some hc0
                      have hc8' : w8.cell? ⟨g, k, none⟩ = some (.int .i64 (v : Nat)) := hc8
                      have hf8 : w8.drew.frozen? ⟨g, k, none⟩ = false := hown8.frozenAt k
                      have hx9 : Ext wr w8.drew := hx8.drew
                      have hst9 : (w8.drew.setCell ⟨g, k, none⟩ (.int .i64 ((v - y : Nat) : Nat))).ownsRow w0.heap.size 3 1 (.slice (some ⟨g, 0, none⟩) p c2) p (nats (S.set k (v - y))) := hst.1
                      have hkp0 : (0 : Int) ≤ (k : Int) := by omega
                      have hkp1 : (k : Int) < (p : Int) := by omega
                      clear hvb hst e1 e2
                      go_still_tail 10, (by kernel_rfl)
                      still_call ((CY.out _).mono fun e w' h => ⟨h.1, h.2.symm⟩)
                      repeat still_step
                      try refine wpStill_nil ?_
                      change wpList _ _ _ _ _ w8.drew
                      generalize w8.drew = w9 at *
                      go_wp2_with fail
                      go_roundw
                      case rel => exact ⟨x + 1, by omega, by go_num, true, S.set k (v - y), rfl, by rw [hcast.out]; exact hst9, hd.out, (hext.trans hx9).setCell (by dsimp only; omega) _, (fun h => by cases h), fun _ => Nat.lt_of_lt_of_le hsd.out (by
                        cases ch
                        · rw [(hno rfl).1]; exact Nat.le_refl _
                        · exact Nat.le_of_lt (hyes rfl))⟩
                      case measure => simp [intOf]; omega
                    · have Hfo := hide hfo
                      clear hfo
                      have Hok := hide ((ok_false Hf.out Hg.out).2 Hfo.out)
                      go_wp2_with (first | (go_at_call 24; refine (spec_l1Has v x hvs _ (by omega)).mono ?_; rw [Hb1.out]; rintro e w' ⟨rfl, rfl⟩) | (go_at_call 37; with_reducible refine (hCF.out).mono ?_; rw [Hfo.out]; rintro e w5 ⟨rfl, hx5⟩))
                      go_roundw
                      case rel => exact ⟨x + 1, by omega, by go_num, ch, S, rfl, own_ext hown hx5, hI, hext.trans hx5, fun hch => ⟨(hno hch).1, (hno hch).2.1, fun j hj hr => by
                        rcases Nat.lt_or_ge j x with h1 | h1
                        · exact (hno hch).2.2 j h1 hr
                        · obtain rfl : j = x := by omega
                          have := Hok.out
                          rw [(hno hch).1] at this
                          exact this⟩, hyes⟩
                      case measure => simp [intOf]; omega
                · obtain rfl : q = x := by omega
                  go_wp2_with fail
                  go_roundw
                  case rel => exact ⟨k + 1, by omega, by go_num, ch, S, rfl, hown, hI, hext, fun hch => ⟨(hno hch).1, fun i j hi hr => by
                    rcases Nat.lt_or_ge i k with h1 | h1
                    · exact (hno hch).2.1 i j h1 hr
                    · obtain rfl : i = k := by omega
                      rw [(hno hch).1] at hI
                      exact (hno hch).2.2 j (rel_lt hI hr).2 hr⟩, hyes⟩
                  case measure => simp [intOf]; omega
            · obtain rfl : p = k := by omega
              cases ch
              · obtain ⟨rfl, hpost⟩ := hno rfl
                have Hpost := hide hpost
                clear hpost hno hyes
                go_wp2_with fail
                go_roundw
                case rel => exact ⟨false, S, rfl, hown, hI, hext, fun _ i j hr => Hpost.out i j (by have := hr.1; have := hI.len; omega) hr⟩
                case measure => rw [sumAt_eq hown, hsum.out]; simp [boolN]
              · have h1 := hide (hyes rfl)
                clear hno hyes
                go_wp2_with fail
                go_roundw
                case rel => exact ⟨true, S, rfl, hown, hI, hext, fun h => by cases h⟩
                case measure =>
                  rw [sumAt_eq hown, hsum.out]
                  have := h1.out
                  simp [boolN]; omega

theorem spec_l15Relate_true {lo hi lo' hi' : Nat} {A : Option Addr} {n c : Nat} {B : Option Addr} {m d : Nat} {s t : Sys} {p q : Nat} {w : World} (h : SysAt w lo hi A n s) (h' : SysAt w lo' hi' B m t)
    (hsp : s.st = p) (htq : t.st = q) (hp1 : 1 ≤ p) (hp : p ≤ 16) (hq : q ≤ 16) (hf : Few p s.edges) (hg : Few q t.edges) :
    Calls Tryd.prog 25 #[.agg #[.int .i64 s.al, .int .i64 s.st, .slice A n c], .agg #[.int .i64 t.al, .int .i64 t.st, .slice B m d], .bool true] w (RetRel w true s t p q) := by
  have HS := hide (fun W (hW : Ext w W) => h.ext hW)
  have HT := hide (fun W (hW : Ext w W) => h'.ext hW)
  have Hf := hide hf
  have Hg := hide hg
  clear h h' hf hg
  rw [hsp, htq]
  go_enter Tryd.func25, Tryd.ntmps25
  go_wp2_with fail
  have hext0 := ((Ext.refl w).alloc (.cells #[.int .i64 s.al, .int .i64 p, .slice A n c] 29)).alloc (.cells #[.int .i64 t.al, .int .i64 q, .slice B m d] 29)
  have hb1 := Blk.new w 29 #[.int .i64 s.al, .int .i64 p, .slice A n c]
  have hb2 := Blk.new (w.alloc (.cells #[.int .i64 s.al, .int .i64 p, .slice A n c] 29)) 29 #[.int .i64 t.al, .int .i64 q, .slice B m d]
  replace hb1 := hb1.ext ((Ext.refl _).alloc (.cells #[.int .i64 t.al, .int .i64 q, .slice B m d] 29))
  have hsz : w.heap.size + 1 + 1 = ((w.alloc (.cells #[.int .i64 s.al, .int .i64 p, .slice A n c] 29)).alloc (.cells #[.int .i64 t.al, .int .i64 q, .slice B m d] 29)).heap.size := by simp
  rw [show (w.alloc (.cells #[.int .i64 s.al, .int .i64 p, .slice A n c] 29)).heap.size = w.heap.size + 1 by simp] at hb2
  generalize (w.alloc (.cells #[.int .i64 s.al, .int .i64 p, .slice A n c] 29)).alloc (.cells #[.int .i64 t.al, .int .i64 q, .slice B m d] 29) = w0 at *
  have Hsz := hide hsz
  clear hsz
  obtain ⟨z, hz⟩ : ∃ z : Nat, Hid (2 ^ q = z) := ⟨_, rfl⟩
  have hz1 : 1 ≤ z := by have := Nat.two_pow_pos q; have := hz.out; omega
  have hz2 : z ≤ 65536 := by rw [← hz.out, show (65536 : Nat) = 2 ^ 16 from rfl]; exact Nat.pow_le_pow_right (by omega) hq
  have CB : ∀ W, Calls Tryd.prog 36 #[.int .i64 q] W fun e w' => e = .returned (.int .i64 (z : Nat)) ∧ W = w' := fun W => by rw [← hz.out]; exact spec_l1Bit q (by omega) W
  have CB' := hide CB
  clear CB
  go_loopw [7, 8] (fun v i wr => ∃ k : Nat, k ≤ p ∧ i = .int .i64 k ∧ wr.ownsRow w0.heap.size 3 1 v k (nats (List.replicate k (z - 1))) ∧ Ext w0 wr) (fun _ i _ => p - (intOf i).toNat)
  case atStart => exact ⟨0, Nat.zero_le _, rfl, by rw [Hsz.out]; exact World.ownsRow_lit w0 #[] 0 (Nat.le_refl _) (by unfold maxLen; omega) rfl, (Ext.refl _).alloc _⟩
  case round =>
    obtain ⟨k, hk, rfl, hown, hext⟩ := hrel
    have e1 := (hb1.ext hext).cell
    have e2 := (hb2.ext hext).cell
    by_cases hlt : k < p
    · have hcast := hide (show ((z : Int) - 1) = ((z - 1 : Nat) : Int) by omega)
      go_wp2_with (first
        | (go_at_call 36; refine (CB'.out _).mono ?_; rintro e w' ⟨rfl, rfl⟩)
        | (at_builtin; refine wpList_push w0 wr rfl _ _ _ rfl 3 _ 1 8 Tryd.underlying32 info_int rfl (by decide) u7 _ _ _ _ rfl rfl hext hown rfl (cells_int _) (by unfold maxLen; omega) (by omega) ?_; intro v' w1 hext1 hown1 hg1 hat1))
      go_roundw
      case rel => exact ⟨k + 1, by omega, by go_num, by rw [hcast.out, show (#[Value.int .i64 ((z - 1 : Nat) : Int)] : Array Value).toList = [Value.int .i64 ((z - 1 : Nat) : Int)] from rfl, replicate_push] at hown1; exact hown1, by assumption⟩
      case measure => simp [intOf]; omega
    · obtain rfl : p = k := by omega
      obtain ⟨g, c2, rfl, hgb⟩ := own_some hown (by omega)
      have hI := Inv.start true s.edges t.edges p q
      rw [hz.out] at hI
      obtain ⟨w2, rfl⟩ : ∃ w2 : World, w2 = wr := ⟨_, rfl⟩
      generalize List.replicate p (z - 1) = R0 at hown hI
      have hx02 := hext
      have CF : ∀ (W : World) (S : List Nat) (k x : Nat), Ext w0 W → W.ownsRow w0.heap.size 3 1 (.slice (some ⟨g, 0, none⟩) p c2) p (nats S) → (∀ r ∈ S, Sm r) → S.length = p → x < 32 →
          Calls Tryd.prog 37 #[.agg #[.int .i64 s.al, .int .i64 p, .slice A n c], .agg #[.int .i64 t.al, .int .i64 q, .slice B m d], .slice (some ⟨g, 0, none⟩) p c2, .int .i64 k, .int .i64 x] W fun e w' => e = .returned (.bool (s.edges.all (folE t.edges S k x))) ∧ Ext W w' := by
        intro W S k x hW ho hs hl hx
        rw [← hsp, ← htq]
        exact spec_l15Follows (HS.out W (hext0.trans hW)) (HT.out W (hext0.trans hW)) (Reads.of_own ho) hs Hf.out Hg.out hp hq hx (by omega)
      have CK : ∀ (W : World) (S : List Nat) (k x : Nat), Ext w0 W → W.ownsRow w0.heap.size 3 1 (.slice (some ⟨g, 0, none⟩) p c2) p (nats S) → (∀ r ∈ S, Sm r) → S.length = p → k < 32 →
          Calls Tryd.prog 38 #[.agg #[.int .i64 s.al, .int .i64 p, .slice A n c], .agg #[.int .i64 t.al, .int .i64 q, .slice B m d], .slice (some ⟨g, 0, none⟩) p c2, .int .i64 k, .int .i64 x] W fun e w' => e = .returned (.bool (t.edges.all (bakE p s.edges S k x))) ∧ Ext W w' := by
        intro W S k x hW ho hs hl hk
        rw [← hsp, ← htq]
        exact spec_l15Backs (HS.out W (hext0.trans hW)) (HT.out W (hext0.trans hW)) (Reads.of_own ho) hs hsp Hf.out Hg.out hp hq hk hl
      have CF' := hide CF
      have CK' := hide CK
      clear CF CK hlt hk
      go_wp2_with fail
      clear e1 e2
      go_loopw [9] (fun v wr => ∃ (b : Bool) (R : List Nat), v = .bool b ∧ wr.ownsRow w0.heap.size 3 1 (.slice (some ⟨g, 0, none⟩) p c2) p (nats R) ∧ Inv true s.edges t.edges p q R ∧ Ext w0 wr ∧ Hid (b = false → ∀ i j, rel R i j → Ok true s.edges t.edges (rel R) i j)) (fun v wr => boolN v + 2 * sumAt wr g p)
      case atStart => exact ⟨true, R0, rfl, hown, hI, hext, fun h => by cases h⟩
      case round =>
        clear hown hI hext
        obtain ⟨b, R, rfl, hown, hI, hext, hfin⟩ := hrel
        have hsum := hide (sumAt_eq hown)
        cases b
        · have Hfin := hide (hfin rfl)
          clear hfin
          go_wp2_with fail
          go_ret
          exact ⟨g, c2, R, rfl, own_less hown hext0.size, ⟨hI, Hfin.out⟩, hext0.trans hext⟩
        · clear hfin
          go_wp2_with fail
          go_loopw [9, 10] (fun v i wr => ∃ k : Nat, k ≤ p ∧ i = .int .i64 k ∧ ∃ (ch : Bool) (S : List Nat), v = .bool ch ∧ wr.ownsRow w0.heap.size 3 1 (.slice (some ⟨g, 0, none⟩) p c2) p (nats S) ∧ Inv true s.edges t.edges p q S ∧ Ext w0 wr
            ∧ Hid (ch = false → S = R ∧ ∀ i j, i < k → rel R i j → Ok true s.edges t.edges (rel R) i j) ∧ Hid (ch = true → S.sum < R.sum)) (fun _ i _ => p - (intOf i).toNat)
          case atStart => exact ⟨0, Nat.zero_le _, rfl, false, R, rfl, hown, hI, hext, fun _ => ⟨rfl, fun i j hi => by omega⟩, fun h => by cases h⟩
          case round =>
            clear hown hI hext
            obtain ⟨k, hk, rfl, ch, S, rfl, hown, hI, hext, hno, hyes⟩ := hrel
            have e1 := (hb1.ext hext).cell
            by_cases hlt : k < p
            · go_wp2_with fail
              clear e1
              go_loopw [9, 11] (fun v i wr => ∃ x : Nat, x ≤ q ∧ i = .int .i64 x ∧ ∃ (ch : Bool) (S : List Nat), v = .bool ch ∧ wr.ownsRow w0.heap.size 3 1 (.slice (some ⟨g, 0, none⟩) p c2) p (nats S) ∧ Inv true s.edges t.edges p q S ∧ Ext w0 wr
                ∧ Hid (ch = false → S = R ∧ (∀ i j, i < k → rel R i j → Ok true s.edges t.edges (rel R) i j) ∧ ∀ j, j < x → rel R k j → Ok true s.edges t.edges (rel R) k j) ∧ Hid (ch = true → S.sum < R.sum)) (fun _ i _ => q - (intOf i).toNat)
              case atStart => exact ⟨0, Nat.zero_le _, rfl, ch, S, rfl, hown, hI, hext, fun h => ⟨(hno h).1, (hno h).2, fun j hj => by omega⟩, hyes⟩
              case round =>
                clear hown hI hext hno hyes
                obtain ⟨x, hxq, rfl, ch, S, rfl, hown, hI, hext, hno, hyes⟩ := hrel
                have e2 := (hb2.ext hext).cell
                by_cases hlx : x < q
                · have hSl : S.length = p := hI.len
                  have hSm : ∀ r ∈ S, Sm r := fun r hr => Nat.lt_of_lt_of_le (hI.small r hr) (by rw [show (4294967296 : Nat) = 2 ^ 32 from rfl]; exact Nat.pow_le_pow_right (by omega) (by omega))
                  obtain ⟨v, hv⟩ : ∃ v, S[k]? = some v := ⟨_, List.getElem?_eq_getElem (by omega)⟩
                  have hvD : S.getD k 0 = v := by rw [List.getD_eq_getElem?_getD, hv]; rfl
                  have hvs := hSm v (List.mem_of_getElem? hv)
                  have hc0 : wr.cell? ⟨g, k, none⟩ = some (.int .i64 (v : Nat)) := by rw [hown.cellAt k (by omega)]; simp [nats, hv]
                  have Hv := hide hv
                  have HvD := hide hvD
                  have HSm := hide hSm
                  have HSl := hide hSl
                  clear hv hvD hSm hSl
                  have e1 := (hb1.ext hext).cell
                  cases hb1' : v.testBit x
                  · have Hb1 := hide hb1'
                    clear hb1'
                    go_wp2_with (go_at_call 24; refine (spec_l1Has v x hvs _ (by omega)).mono ?_; rw [Hb1.out]; rintro e w' ⟨rfl, rfl⟩)
                    go_roundw
                    case rel => exact ⟨x + 1, by omega, by go_num, ch, S, rfl, hown, hI, hext, fun hch => ⟨(hno hch).1, (hno hch).2.1, fun j hj hr => by
                      rcases Nat.lt_or_ge j x with h1 | h1
                      · exact (hno hch).2.2 j h1 hr
                      · obtain rfl : j = x := by omega
                        have := hr.2
                        rw [← (hno hch).1, HvD.out, Hb1.out] at this
                        cases this⟩, hyes⟩
                    case measure => simp [intOf]; omega
                  · have Hb1 := hide hb1'
                    have Hrel := hide (show rel S k x from ⟨by have := HSl.out; omega, by rw [HvD.out]; exact hb1'⟩)
                    clear hb1'
                    have hCF := hide (CF'.out wr S k x hext hown HSm.out HSl.out (by omega))
                    cases hfo : s.edges.all (folE t.edges S k x)
                    · have Hfo := hide hfo
                      clear hfo
                      have Hnok := hide (show ¬ Ok true s.edges t.edges (rel S) k x from fun h => by have := (ok_true Hf.out Hg.out).1 h; rw [Hfo.out] at this; simp at this)
                      go_wp2_with (first | (go_at_call 24; refine (spec_l1Has v x hvs _ (by omega)).mono ?_; rw [Hb1.out]; rintro e w' ⟨rfl, rfl⟩) | (go_at_call 37; with_reducible refine (hCF.out).mono ?_; rw [Hfo.out]; rintro e w5 ⟨rfl, hx5⟩))
                      have hvb : v.testBit x = true := Hb1.out
                      have hle := Nat.ge_two_pow_of_testBit hvb
                      have hd := hide (hI.drop Hrel.out Hnok.out)
                      have hsd := hide (sum_drop_lt Hrel.out)
                      rw [HvD.out] at hd hsd
                      obtain ⟨y, hy⟩ : ∃ y : Nat, Hid (2 ^ x = y) := ⟨_, rfl⟩
                      have CY := hide (show ∀ W, Calls Tryd.prog 36 #[.int .i64 x] W fun e w' => e = .returned (.int .i64 (y : Nat)) ∧ W = w' from fun W => by rw [← hy.out]; exact spec_l1Bit x (by omega) W)
                      rw [hy.out] at hd hsd hle
                      have hvi : (v : Int) < 4294967296 := by have := hvs.lt; omega
                      have hcast := hide (show ((v : Int) - (y : Int)) = ((v - y : Nat) : Int) by omega)
                      generalize hw8e : w5 = w8
                      have hx8 : Ext wr w8 := by rw [← hw8e]; exact hx5
                      clear hw8e
                      have hown8 := own_ext hown hx8
                      have hst := hown8.stored k (.int .i64 ((v - y : Nat) : Nat))
                      rw [← nats_set] at hst
                      have hc8 : w8.drew.cell? ⟨g, k, none⟩ = some (.int .i64 (v : Nat)) := hx8.cell_some hc0
                      have hc8' : w8.cell? ⟨g, k, none⟩ = some (.int .i64 (v : Nat)) := hc8
                      have hf8 : w8.drew.frozen? ⟨g, k, none⟩ = false := hown8.frozenAt k
                      have hx9 : Ext wr w8.drew := hx8.drew
                      have hst9 : (w8.drew.setCell ⟨g, k, none⟩ (.int .i64 ((v - y : Nat) : Nat))).ownsRow w0.heap.size 3 1 (.slice (some ⟨g, 0, none⟩) p c2) p (nats (S.set k (v - y))) := hst.1
                      have hkp0 : (0 : Int) ≤ (k : Int) := by omega
                      have hkp1 : (k : Int) < (p : Int) := by omega
                      clear hvb hst e1 e2
                      go_still_tail 10, (by kernel_rfl)
                      still_call ((CY.out _).mono fun e w' h => ⟨h.1, h.2.symm⟩)
                      repeat still_step
                      try refine wpStill_nil ?_
                      change wpList _ _ _ _ _ w8.drew
                      generalize w8.drew = w9 at *
                      go_wp2_with fail
                      go_roundw
                      case rel => exact ⟨x + 1, by omega, by go_num, true, S.set k (v - y), rfl, by rw [hcast.out]; exact hst9, hd.out, (hext.trans hx9).setCell (by dsimp only; omega) _, (fun h => by cases h), fun _ => Nat.lt_of_lt_of_le hsd.out (by
                        cases ch
                        · rw [(hno rfl).1]; exact Nat.le_refl _
                        · exact Nat.le_of_lt (hyes rfl))⟩
                      case measure => simp [intOf]; omega
                    · have Hfo := hide hfo
                      clear hfo
                      cases hbk : t.edges.all (bakE p s.edges S k x)
                      · have Hbk := hide hbk
                        clear hbk
                        have Hnok := hide (show ¬ Ok true s.edges t.edges (rel S) k x from fun h => by have := (ok_true Hf.out Hg.out).1 h; rw [Hbk.out] at this; simp at this)
                        go_wp2_with (first | (go_at_call 24; refine (spec_l1Has v x hvs _ (by omega)).mono ?_; rw [Hb1.out]; rintro e w' ⟨rfl, rfl⟩) | (go_at_call 37; with_reducible refine (hCF.out).mono ?_; rw [Hfo.out]; rintro e w5 ⟨rfl, hx5⟩; have e15 := (hb1.ext (hext.trans hx5)).cell; have e25 := (hb2.ext (hext.trans hx5)).cell) | (go_at_call 38; refine (CK'.out _ S k x (hext.trans hx5) (own_ext hown hx5) HSm.out HSl.out (by omega)).mono ?_; rw [Hbk.out]; rintro e w6 ⟨rfl, hx6⟩))
                        clear e15 e25
                        have hvb : v.testBit x = true := Hb1.out
                        have hle := Nat.ge_two_pow_of_testBit hvb
                        have hd := hide (hI.drop Hrel.out Hnok.out)
                        have hsd := hide (sum_drop_lt Hrel.out)
                        rw [HvD.out] at hd hsd
                        obtain ⟨y, hy⟩ : ∃ y : Nat, Hid (2 ^ x = y) := ⟨_, rfl⟩
                        have CY := hide (show ∀ W, Calls Tryd.prog 36 #[.int .i64 x] W fun e w' => e = .returned (.int .i64 (y : Nat)) ∧ W = w' from fun W => by rw [← hy.out]; exact spec_l1Bit x (by omega) W)
                        rw [hy.out] at hd hsd hle
                        have hvi : (v : Int) < 4294967296 := by have := hvs.lt; omega
                        have hcast := hide (show ((v : Int) - (y : Int)) = ((v - y : Nat) : Int) by omega)
                        generalize hw8e : w6 = w8
                        have hx8 : Ext wr w8 := by rw [← hw8e]; exact (hx5.trans hx6)
                        clear hw8e
                        have hown8 := own_ext hown hx8
                        have hst := hown8.stored k (.int .i64 ((v - y : Nat) : Nat))
                        rw [← nats_set] at hst
                        have hc8 : w8.drew.cell? ⟨g, k, none⟩ = some (.int .i64 (v : Nat)) := hx8.cell_some hc0
                        have hc8' : w8.cell? ⟨g, k, none⟩ = some (.int .i64 (v : Nat)) := hc8
                        have hf8 : w8.drew.frozen? ⟨g, k, none⟩ = false := hown8.frozenAt k
                        have hx9 : Ext wr w8.drew := hx8.drew
                        have hst9 : (w8.drew.setCell ⟨g, k, none⟩ (.int .i64 ((v - y : Nat) : Nat))).ownsRow w0.heap.size 3 1 (.slice (some ⟨g, 0, none⟩) p c2) p (nats (S.set k (v - y))) := hst.1
                        have hkp0 : (0 : Int) ≤ (k : Int) := by omega
                        have hkp1 : (k : Int) < (p : Int) := by omega
                        clear hvb hst e1 e2
                        go_still_tail 10, (by kernel_rfl)
                        still_call ((CY.out _).mono fun e w' h => ⟨h.1, h.2.symm⟩)
                        repeat still_step
                        try refine wpStill_nil ?_
                        change wpList _ _ _ _ _ w8.drew
                        generalize w8.drew = w9 at *
                        go_wp2_with fail
                        go_roundw
                        case rel => exact ⟨x + 1, by omega, by go_num, true, S.set k (v - y), rfl, by rw [hcast.out]; exact hst9, hd.out, (hext.trans hx9).setCell (by dsimp only; omega) _, (fun h => by cases h), fun _ => Nat.lt_of_lt_of_le hsd.out (by
                          cases ch
                          · rw [(hno rfl).1]; exact Nat.le_refl _
                          · exact Nat.le_of_lt (hyes rfl))⟩
                        case measure => simp [intOf]; omega
                      · have Hbk := hide hbk
                        clear hbk
                        have Hok := hide ((ok_true Hf.out Hg.out).2 ⟨Hfo.out, Hbk.out⟩)
                        go_wp2_with (first | (go_at_call 24; refine (spec_l1Has v x hvs _ (by omega)).mono ?_; rw [Hb1.out]; rintro e w' ⟨rfl, rfl⟩) | (go_at_call 37; with_reducible refine (hCF.out).mono ?_; rw [Hfo.out]; rintro e w5 ⟨rfl, hx5⟩; have e15 := (hb1.ext (hext.trans hx5)).cell; have e25 := (hb2.ext (hext.trans hx5)).cell) | (go_at_call 38; refine (CK'.out _ S k x (hext.trans hx5) (own_ext hown hx5) HSm.out HSl.out (by omega)).mono ?_; rw [Hbk.out]; rintro e w6 ⟨rfl, hx6⟩))
                        go_roundw
                        case rel => exact ⟨x + 1, by omega, by go_num, ch, S, rfl, own_ext hown (hx5.trans hx6), hI, hext.trans (hx5.trans hx6), fun hch => ⟨(hno hch).1, (hno hch).2.1, fun j hj hr => by
                          rcases Nat.lt_or_ge j x with h1 | h1
                          · exact (hno hch).2.2 j h1 hr
                          · obtain rfl : j = x := by omega
                            have := Hok.out
                            rw [(hno hch).1] at this
                            exact this⟩, hyes⟩
                        case measure => simp [intOf]; omega
                · obtain rfl : q = x := by omega
                  go_wp2_with fail
                  go_roundw
                  case rel => exact ⟨k + 1, by omega, by go_num, ch, S, rfl, hown, hI, hext, fun hch => ⟨(hno hch).1, fun i j hi hr => by
                    rcases Nat.lt_or_ge i k with h1 | h1
                    · exact (hno hch).2.1 i j h1 hr
                    · obtain rfl : i = k := by omega
                      rw [(hno hch).1] at hI
                      exact (hno hch).2.2 j (rel_lt hI hr).2 hr⟩, hyes⟩
                  case measure => simp [intOf]; omega
            · obtain rfl : p = k := by omega
              cases ch
              · obtain ⟨rfl, hpost⟩ := hno rfl
                have Hpost := hide hpost
                clear hpost hno hyes
                go_wp2_with fail
                go_roundw
                case rel => exact ⟨false, S, rfl, hown, hI, hext, fun _ i j hr => Hpost.out i j (by have := hr.1; have := hI.len; omega) hr⟩
                case measure => rw [sumAt_eq hown, hsum.out]; simp [boolN]
              · have h1 := hide (hyes rfl)
                clear hno hyes
                go_wp2_with fail
                go_roundw
                case rel => exact ⟨true, S, rfl, hown, hI, hext, fun h => by cases h⟩
                case measure =>
                  rw [sumAt_eq hown, hsum.out]
                  have := h1.out
                  simp [boolN]; omega

theorem spec_l15Relate {both : Bool} {lo hi lo' hi' : Nat} {A : Option Addr} {n c : Nat} {B : Option Addr} {m d : Nat} {s t : Sys} {p q : Nat} {w : World} (h : SysAt w lo hi A n s) (h' : SysAt w lo' hi' B m t)
    (hsp : s.st = p) (htq : t.st = q) (hp1 : 1 ≤ p) (hp : p ≤ 16) (hq : q ≤ 16) (hf : Few p s.edges) (hg : Few q t.edges) :
    Calls Tryd.prog 25 #[.agg #[.int .i64 s.al, .int .i64 s.st, .slice A n c], .agg #[.int .i64 t.al, .int .i64 t.st, .slice B m d], .bool both] w (RetRel w both s t p q) := by
  cases both
  · exact spec_l15Relate_false h h' hsp htq hp1 hp hq hf hg
  · exact spec_l15Relate_true h h' hsp htq hp1 hp hq hf hg
end Go.Proofs.YtdeopnjheeekcaaDoor
