/- TraceOfParts of both, walked. | Words run through automata; BreaksProperty of both, walked. | BreaksProperty of the program, walked. | l13Trace, CheckCertificate of both, walked; printed by gen_chk.py. | An automaton that grows: a variable holds it, its rows and its marks lie in new memory. impl.copyAutomaton and spec.l3Copy, walked. | The laws' own marks on automata, and what is held of them, walked. | Verdicts: the size count, the copies, the comparisons and the marks of the laws. | Chains as data: the laws' own counts, copies and comparisons of them. -/
import Derived.Test.YtplllipekeomiaaGreatDoorG19
import Derived.Test.YtplllipekeomiaaGreatDoorG17
import Derived.Test.YtplllipekeomiaaGreatDoorG14
import Derived.Test.YtplllipekeomiaaGreatDoorG15
import Derived.Test.YtplllipekeomiaaGreatDoorG07
import Derived.Test.YtplllipekeomiaaGreatDoorG10
import Derived.Deep.DeepCutAuto
import Derived.Test.YtplllipekeomiaaGreatDoorG11
import Derived.Test.YtplllipekeomiaaGreatDoorG13
import Derived.Deep.CutBlock
namespace Go.Proofs.YtplllipekeomiaaGreatDoor
open Go Go.RowKit
set_option maxHeartbeats 4000000

theorem restB_size (s : ByteArray) (a : Nat) : (restB s a).size ≤ s.size := by
  have h := keepL_len s a s.size
  rw [List.take_of_length_le (by simp)] at h
  have e : (restB s a).size = (bnum (keepL a s.data.toList)).length := by unfold restB; rw [strOfNums_size]
  rw [e, bnum, List.length_map]
  exact h
/-- What TraceOfParts returns. -/
def topB (ss : List Sys) (t : ByteArray) : Bool := areParts ss && (inB t (unionA ss) && ss.all fun s => aftB s (restB t s.al.toNat) != 0)
section
variable {lo hi n c : Nat} {A : Option Addr} {ss : List Sys} {t : ByteArray} {w : World}
theorem all_next {ss : List Sys} {f : Sys → Bool} {k : Nat} {s : Sys} (h : ss[k]? = some s) (ha : (ss.take k).all f = true) (hf : f s = true) : (ss.take (k + 1)).all f = true := by
  rw [List.take_add_one, h, List.all_append, ha]; simp [hf]
theorem all_not {ss : List Sys} {f : Sys → Bool} {k : Nat} {s : Sys} (h : ss[k]? = some s) (hf : f s = false) : ss.all f = false := by
  rw [List.all_eq_false]; exact ⟨s, List.mem_of_getElem? h, by simp [hf]⟩
set_option maxRecDepth 100000 in
theorem spec_TraceOfParts (h : SLAt w lo hi A n ss) (ht : t.size ≤ 9223372036854775807) :
    Calls Tryz.prog 68 #[.slice A n c, .string t] w fun e w' => e = .returned (.bool (topB ss t)) ∧ Ext w w' := by
  have hn := h.len
  have hL := hide h.1
  have HS := hide (fun W (hW : Ext w W) => h.ext hW)
  clear h
  cases hp : areParts ss
  · have hPA := hide (show partsA ss = -1 by unfold partsA; rw [hp]; rfl)
    have hr := hide (show topB ss t = false by unfold topB; rw [hp]; rfl)
    clear hp
    go_enter Tryz.func68, Tryz.ntmps68
    go_wp2_with (go_at_call 82; refine (spec_PartsAlphabet (HS.out _ (Ext.refl _))).mono ?_; rw [hPA.out]; rintro e w1 ⟨rfl, hx⟩)
    go_ret
    exact ⟨ret_bool (by rw [hr.out]), hx⟩
  · have hv := hide (parts_valid hp).2
    have hu := union_le hv.out
    have hPA := hide (show partsA ss = (unionA ss : Int) by unfold partsA; rw [hp]; rfl)
    have hr := hide (show topB ss t = (inB t (unionA ss) && ss.all fun s => aftB s (restB t s.al.toNat) != 0) by unfold topB; rw [hp]; rfl)
    clear hp
    generalize unionA ss = u at *
    cases hi : inB t u
    · have Hi := hide hi
      rw [hi] at hr
      clear hi
      go_enter Tryz.func68, Tryz.ntmps68
      go_wp2_with (first
        | (go_at_call 82; refine (spec_PartsAlphabet (HS.out _ (Ext.refl _))).mono ?_; rw [hPA.out]; rintro e w1 ⟨rfl, hx⟩)
        | (go_at_call 93; refine (spec_WordWithin ht hu).mono ?_; rw [Hi.out]; rintro e w3 ⟨rfl, rfl⟩))
      go_ret
      exact ⟨ret_bool (by rw [hr.out]; rfl), hx⟩
    · have Hi := hide hi
      have hwd := hide (inB_word hi)
      rw [hi, Bool.true_and] at hr
      clear hi
      go_enter Tryz.func68, Tryz.ntmps68
      go_wp2_with (first
        | (go_at_call 82; refine (spec_PartsAlphabet (HS.out _ (Ext.refl _))).mono ?_; rw [hPA.out]; rintro e w1 ⟨rfl, hx⟩)
        | (go_at_call 93; refine (spec_WordWithin ht hu).mono ?_; rw [Hi.out]; rintro e w3 ⟨rfl, rfl⟩))
      go_loopw [6] (fun i wr => ∃ k : Nat, k ≤ n ∧ i = .int .i64 k ∧ Hid ((ss.take k).all (fun s => aftB s (restB t s.al.toNat) != 0) = true) ∧ Ext w wr) (fun i _ => n - (intOf i).toNat)
      case atStart => exact ⟨0, Nat.zero_le _, rfl, rfl, hx⟩
      case round =>
        clear hx
        obtain ⟨k, hk, rfl, hall, hxr⟩ := hrel
        by_cases hlt : k < n
        · obtain ⟨b, o, s, B, q, d, rfl, _, _, hs, c0, c1, c2, hsy⟩ := (HS.out wr hxr).sys hlt
          obtain ⟨ha0, ha1⟩ := sysValid_al (hv.out s (List.mem_of_getElem? hs.out))
          obtain ⟨al, hal⟩ : ∃ al : Nat, Hid (s.al = al) := ⟨s.al.toNat, by unfold Hid; omega⟩
          have hal6 : al ≤ 63 := by have := hal.out; omega
          have hto : s.al.toNat = al := by have := hal.out; omega
          have hsz2 := Nat.le_trans (restB_size t al) ht
          have HR := hide (fun W => spec_RestrictWord (w := W) hwd.out hal6)
          have HC := hide (fun W (hW : Ext wr W) => spec_HasTrace (c := d) (hsy.ext hW) hsz2)
          rw [hal.out] at c0 HC
          have d0 : ∀ W, Ext wr W → W.cell? ⟨b, o + k * 3, none⟩ = some (.int .i64 al) := fun W hW => hW.cell_some c0
          have d1 : ∀ W, Ext wr W → W.cell? ⟨b, o + k * 3 + 1, none⟩ = some (.int .i64 s.st) := fun W hW => hW.cell_some c1
          have d2 : ∀ W, Ext wr W → W.cell? ⟨b, o + k * 3 + 2, none⟩ = some (.slice B q d) := fun W hW => hW.cell_some c2
          have hN := hide (fun hb => all_next (f := fun s => aftB s (restB t s.al.toNat) != 0) hs.out hall.out hb)
          have hF := hide (fun hb => all_not (f := fun s => aftB s (restB t s.al.toNat) != 0) hs.out hb)
          simp only [hto] at hN hF
          clear hto hsz2 hsy ha0 ha1 hall
          generalize restB t al = t' at *
          have hww := Ext.refl wr
          go_upto_region 7 with fail
          refine wp_region_tailU (fun X => Ext wr X) [11] (OrdU.of [0, 1, 2, 3, 4, 5, 6, 7, 8, 9, 10, 11, 12]) (by kernel_rfl) (by kernel_rfl) (by kernel_rfl) (by kernel_rfl) (by kernel_rfl) (fun _ _ _ _ _ h => h) (by first | assumption | exact (Ext.refl _).drew | (refine Ext.drew ?_; assumption)) ?_
          repeat (first | (refine useq_skip rfl rfl (by assumption) ?_; simp only [Act.put, List.setIfInBounds_toArray, List.set_cons_zero, List.set_cons_succ]) | (refine useq_pure (v := ?_) rfl rfl rfl rfl (fun X => ?_) ?_; rotate_left; (focus (go_simp <;> with_reducible rfl)); simp only [Act.put, List.setIfInBounds_toArray, List.set_cons_zero, List.set_cons_succ]) | (refine useq_read (v := ?_) rfl rfl rfl rfl (fun X hX => ?_) ?_; rotate_left; (focus (go_simp <;> with_reducible rfl)); simp only [Act.put, List.setIfInBounds_toArray, List.set_cons_zero, List.set_cons_succ]))
          (refine useq_step rfl rfl rfl (fun K hK => ?_); go_simp)
          refine (HR.out _).mono ?_
          rintro e w' ⟨rfl, hx1⟩
          have hx2 := hww.drew.trans hx1
          refine hK.out _ _ hx2 ?_
          (try simp only [Act.put, List.setIfInBounds_toArray, List.set_cons_zero, List.set_cons_succ])
          (refine useq_last rfl rfl rfl rfl (fun K hK => ?_))
          go_simp
          refine (HC.out _ hx2).mono ?_
          rintro e w5 ⟨rfl, hx5⟩
          refine hK.out _ _ ?_
          (try simp only [Act.put, List.setIfInBounds_toArray, List.set_cons_zero, List.set_cons_succ])
          repeat (first | (refine useq_skip rfl rfl (by assumption) ?_; simp only [Act.put, List.setIfInBounds_toArray, List.set_cons_zero, List.set_cons_succ]) | (refine useq_pure (v := ?_) rfl rfl rfl rfl (fun X => ?_) ?_; rotate_left; (focus (go_simp <;> with_reducible rfl)); simp only [Act.put, List.setIfInBounds_toArray, List.set_cons_zero, List.set_cons_succ]) | (refine useq_read (v := ?_) rfl rfl rfl rfl (fun X hX => ?_) ?_; rotate_left; (focus (go_simp <;> with_reducible rfl)); simp only [Act.put, List.setIfInBounds_toArray, List.set_cons_zero, List.set_cons_succ]))
          refine useq_nil ?_
          have hx6 := hx2.trans hx5
          cases hb : (aftB s t' != 0)
          · have hff := hide (hF.out hb)
            clear hF hN
            go_wp2
            go_ret
            exact ⟨ret_bool (by rw [hr.out, hff.out]), hxr.trans hx6⟩
          · have hnn := hide (hN.out hb)
            clear hF hN
            go_wp2_with fail
            go_roundw
            case rel => exact ⟨k + 1, by omega, by go_num, hnn, hxr.trans hx6⟩
            case measure => simp [intOf]; omega
        · obtain rfl : k = n := by omega
          have hfin := hide (show (ss.all fun s => aftB s (restB t s.al.toNat) != 0) = true by have := hall.out; rwa [List.take_of_length_le (by have := hL.out; omega)] at this)
          go_wp2
          go_ret
          exact ⟨ret_bool (by rw [hr.out, hfin.out]), hxr⟩
set_option maxRecDepth 100000 in
theorem impl_TraceOfParts (h : SLAt w lo hi A n ss) (hT : Tab w) (ht : t.size ≤ 9223372036854775807) :
    Calls Tryz.prog 46 #[.slice A n c, .string t] w fun e w' => e = .returned (.bool (topB ss t)) ∧ Ext w w' := by
  have hn := h.len
  have hL := hide h.1
  have HS := hide (fun W (hW : Ext w W) => h.ext hW)
  have HT := hide (fun W (hW : Ext w W) => hT.ext hW)
  clear h hT
  cases hp : areParts ss
  · have Hp := hide hp
    have hr := hide (show topB ss t = false by unfold topB; rw [hp]; rfl)
    clear hp
    go_enter Tryz.func46, Tryz.ntmps46
    go_wp2_with (go_at_call 59; refine (impl_areParts (HS.out _ (Ext.refl _))).mono ?_; rw [Hp.out]; rintro e w1 ⟨rfl, hx⟩)
    go_ret
    exact ⟨ret_bool (by rw [hr.out]), hx⟩
  · have Hp := hide hp
    have hv := hide (parts_valid hp).2
    have hu := union_le hv.out
    have hPA := hide (show partsA ss = (unionA ss : Int) by unfold partsA; rw [hp]; rfl)
    have hr := hide (show topB ss t = (inB t (unionA ss) && ss.all fun s => aftB s (restB t s.al.toNat) != 0) by unfold topB; rw [hp]; rfl)
    clear hp
    generalize unionA ss = u at *
    cases hi : inB t u
    · have Hi := hide (show (decide (t.size ≤ 50000) && overB t u) = false from hi)
      rw [hi] at hr
      clear hi
      go_enter Tryz.func46, Tryz.ntmps46
      go_wp2_with (first
        | (go_at_call 59; refine (impl_areParts (HS.out _ (Ext.refl _))).mono ?_; rw [Hp.out]; rintro e w1 ⟨rfl, hx1⟩)
        | (go_at_call 76; refine (impl_PartsAlphabet (HS.out _ hx1)).mono ?_; rw [hPA.out]; rintro e w2 ⟨rfl, hx⟩)
        | (go_at_call 75; refine (impl_WordWithin t u _ ht hu).mono ?_; rw [Hi.out]; rintro e w3 ⟨rfl, rfl⟩))
      go_ret
      exact ⟨ret_bool (by rw [hr.out]; rfl), hx1.trans hx⟩
    · have Hi := hide (show (decide (t.size ≤ 50000) && overB t u) = true from hi)
      have hwd := hide (inB_word hi)
      rw [hi, Bool.true_and] at hr
      clear hi
      go_enter Tryz.func46, Tryz.ntmps46
      go_wp2_with (first
        | (go_at_call 59; refine (impl_areParts (HS.out _ (Ext.refl _))).mono ?_; rw [Hp.out]; rintro e w1 ⟨rfl, hx1⟩)
        | (go_at_call 76; refine (impl_PartsAlphabet (HS.out _ hx1)).mono ?_; rw [hPA.out]; rintro e w2 ⟨rfl, hx⟩)
        | (go_at_call 75; refine (impl_WordWithin t u _ ht hu).mono ?_; rw [Hi.out]; rintro e w3 ⟨rfl, rfl⟩))
      go_loopw [6, 19] (fun _ i wr => ∃ k : Nat, k ≤ n ∧ i = .int .i64 k ∧ Hid ((ss.take k).all (fun s => aftB s (restB t s.al.toNat) != 0) = true) ∧ Ext w wr) (fun _ i _ => n - (intOf i).toNat)
      case atStart => exact ⟨0, Nat.zero_le _, rfl, rfl, hx1.trans hx⟩
      case round =>
        clear hx hx1
        obtain ⟨k, hk, rfl, hall, hxr⟩ := hrel
        by_cases hlt : k < n
        · obtain ⟨b, o, s, B, q, d, rfl, _, _, hs, c0, c1, c2, hsy⟩ := (HS.out wr hxr).sys hlt
          obtain ⟨ha0, ha1⟩ := sysValid_al (hv.out s (List.mem_of_getElem? hs.out))
          obtain ⟨al, hal⟩ : ∃ al : Nat, Hid (s.al = al) := ⟨s.al.toNat, by unfold Hid; omega⟩
          have hal6 : al ≤ 63 := by have := hal.out; omega
          have hto : s.al.toNat = al := by have := hal.out; omega
          have hsz2 := Nat.le_trans (restB_size t al) ht
          have HR := hide (fun W => impl_restrict (w := W) hwd.out hal6)
          have HC := hide (fun W (hW : Ext wr W) => impl_HasTrace (c := d) (hsy.ext hW) (HT.out W (hxr.trans hW)) hsz2)
          rw [hal.out] at c0 HC
          have hN := hide (fun hb => all_next (f := fun s => aftB s (restB t s.al.toNat) != 0) hs.out hall.out hb)
          have hF := hide (fun hb => all_not (f := fun s => aftB s (restB t s.al.toNat) != 0) hs.out hb)
          simp only [hto] at hN hF
          clear hto hsz2 hsy ha0 ha1 hall
          generalize restB t al = t' at *
          go_upto_region 6 with fail
          have hw5 : Ext wr (wr.alloc (.cells #[.int .i64 al, .int .i64 s.st, .slice B q d] 54)) := (Ext.refl wr).alloc _
          have b5 := Blk.new wr 54 #[.int .i64 al, .int .i64 s.st, .slice B q d]
          generalize wr.alloc (.cells #[.int .i64 al, .int .i64 s.st, .slice B q d] 54) = w5 at *
          have c5 : ∀ W, Ext w5 W → ∀ j, W.cell? ⟨wr.heap.size, j, none⟩ = #[Value.int .i64 al, .int .i64 s.st, .slice B q d][j]? := fun W hW => (b5.ext hW).cell
          have hww := Ext.refl w5
          refine wp_region_tailU (fun X => Ext w5 X) [5] (OrdU.of [0, 1, 2, 3, 4, 5, 6]) (by kernel_rfl) (by kernel_rfl) (by kernel_rfl) (by kernel_rfl) (by kernel_rfl) (fun _ _ _ _ _ h => h) (by first | assumption | exact (Ext.refl _).drew | (refine Ext.drew ?_; assumption)) ?_
          repeat (first | (refine useq_skip rfl rfl (by assumption) ?_; simp only [Act.put, List.setIfInBounds_toArray, List.set_cons_zero, List.set_cons_succ]) | (refine useq_pure (v := ?_) rfl rfl rfl rfl (fun X => ?_) ?_; rotate_left; (focus (go_simp <;> with_reducible rfl)); simp only [Act.put, List.setIfInBounds_toArray, List.set_cons_zero, List.set_cons_succ]) | (refine useq_read (v := ?_) rfl rfl rfl rfl (fun X hX => ?_) ?_; rotate_left; (focus (go_simp <;> with_reducible rfl)); simp only [Act.put, List.setIfInBounds_toArray, List.set_cons_zero, List.set_cons_succ]))
          (refine useq_step rfl rfl rfl (fun K hK => ?_); go_simp)
          refine (HR.out _).mono ?_
          rintro e w' ⟨rfl, hx1⟩
          have hx2 := hww.drew.trans hx1
          refine hK.out _ _ hx2 ?_
          (try simp only [Act.put, List.setIfInBounds_toArray, List.set_cons_zero, List.set_cons_succ])
          (refine useq_last rfl rfl rfl rfl (fun K hK => ?_))
          go_simp
          refine (HC.out _ (hw5.trans hx2)).mono ?_
          rintro e w6 ⟨rfl, hx5⟩
          refine hK.out _ _ ?_
          (try simp only [Act.put, List.setIfInBounds_toArray, List.set_cons_zero, List.set_cons_succ])
          repeat (first | (refine useq_skip rfl rfl (by assumption) ?_; simp only [Act.put, List.setIfInBounds_toArray, List.set_cons_zero, List.set_cons_succ]) | (refine useq_pure (v := ?_) rfl rfl rfl rfl (fun X => ?_) ?_; rotate_left; (focus (go_simp <;> with_reducible rfl)); simp only [Act.put, List.setIfInBounds_toArray, List.set_cons_zero, List.set_cons_succ]) | (refine useq_read (v := ?_) rfl rfl rfl rfl (fun X hX => ?_) ?_; rotate_left; (focus (go_simp <;> with_reducible rfl)); simp only [Act.put, List.setIfInBounds_toArray, List.set_cons_zero, List.set_cons_succ]))
          refine useq_nil ?_
          have hx6 := hw5.trans (hx2.trans hx5)
          cases hb : (aftB s t' != 0)
          · have hff := hide (hF.out hb)
            clear hF hN
            go_wp2
            go_ret
            exact ⟨ret_bool (by rw [hr.out, hff.out]), hxr.trans hx6⟩
          · have hnn := hide (hN.out hb)
            clear hF hN
            go_wp2_with fail
            go_roundw
            case rel => exact ⟨k + 1, by omega, by go_num, hnn, hxr.trans hx6⟩
            case measure => simp [intOf]; omega
        · obtain rfl : k = n := by omega
          have hfin := hide (show (ss.all fun s => aftB s (restB t s.al.toNat) != 0) = true by have := hall.out; rwa [List.take_of_length_le (by have := hL.out; omega)] at this)
          go_wp2
          go_ret
          exact ⟨ret_bool (by rw [hr.out, hfin.out]), hxr⟩
end
end Go.Proofs.YtplllipekeomiaaGreatDoor

namespace Go.Proofs.YtplllipekeomiaaGreatDoor
open Go Go.RowKit
set_option maxHeartbeats 4000000

/-- The state to which a word leads. -/
def runA (p : Aut) (q : Nat) (ls : List Nat) : Nat := ls.foldl (aGo p) q
theorem runA_snoc (p : Aut) (q : Nat) (ls : List Nat) (l : Nat) : runA p q (ls ++ [l]) = aGo p (runA p q ls) l := by simp [runA]
theorem runA_lt {p : Aut} (hv : autValid p = true) {ls : List Nat} (h : ∀ l ∈ ls, l < 6) {q : Nat} (hq : q < p.next.length) : runA p q ls < p.next.length := by
  induction ls generalizing q with
  | nil => exact hq
  | cons l r ih => exact ih (fun x hx => h x (List.mem_cons_of_mem _ hx)) (aGo_lt hv hq (h l List.mem_cons_self))
theorem runA_filter (p : Aut) (ls : List Nat) (q : Nat) : runA p q (ls.filter fun l => p.al.toNat.testBit l) = runA p q ls := by
  induction ls generalizing q with
  | nil => rfl
  | cons l r ih =>
    rw [List.filter_cons]
    show _ = runA p (aGo p q l) r
    cases hb : p.al.toNat.testBit l
    · have e : aGo p q l = q := by unfold aGo; rw [hb]; rfl
      rw [e]; simpa using ih q
    · simp only [if_true]
      exact ih (aGo p q l)
theorem restB_data (s : ByteArray) (a : Nat) : (restB s a).data.toList = keepL a s.data.toList := by
  unfold restB strOfNums bnum
  simp only [List.map_map]
  refine (List.map_congr_left (g := id) fun b _ => ?_).trans (List.map_id _)
  simp
theorem wl_restB {s : ByteArray} (h : wordB s = true) (a : Nat) : wl (restB s a) = (wl s).filter fun l => a.testBit l := by
  unfold wl
  rw [restB_data]
  unfold keepL
  have hb : ∀ b ∈ s.data.toList, 97 ≤ b.toNat ∧ b.toNat ≤ 102 := by
    intro b hb
    obtain ⟨i, hi⟩ := List.getElem?_of_mem hb
    have hil : i < s.size := by have := (List.getElem?_eq_some_iff.1 hi).1; simpa using this
    rw [byte_get s i hil] at hi
    obtain rfl := Option.some.inj hi
    exact word_byte h hil
  generalize s.data.toList = L at hb
  clear h
  induction L with
  | nil => rfl
  | cons b r ih =>
    have h0 := hb b List.mem_cons_self
    have ih := ih fun x hx => hb x (List.mem_cons_of_mem _ hx)
    have e : hasB a (ltr b.toNat) = a.testBit (b.toNat - 97) := by
      unfold hasB ltr
      rw [if_neg (by omega), decide_eq_true (by omega), Bool.true_and]
      congr 1
      omega
    rw [List.filter_cons, List.map_cons, List.filter_cons, e]
    cases a.testBit (b.toNat - 97)
    · simpa using ih
    · simp only [if_true, List.map_cons]
      rw [ih]
theorem restB_in {s : ByteArray} (h : wordB s = true) (a : Nat) : inB (restB s a) a = true := by
  unfold inB overB
  rw [restB_data, Bool.and_eq_true, decide_eq_true_eq]
  refine ⟨Nat.le_trans (restB_size s a) (word_size h), ?_⟩
  rw [List.all_eq_true]
  intro b hb
  exact (List.mem_filter.1 hb).2
/-- What BreaksProperty returns. -/
def breakB (p : Aut) (t : ByteArray) : Bool := autValid p && (wordB t && !accB p (runA p 0 (wl t)))
section
variable {lo hi m d m' d' : Nat} {B B' : Option Addr} {p : Aut} {t : ByteArray} {w : World}
set_option maxRecDepth 100000 in
theorem spec_l3Run (h : AutAt w lo hi B m B' m' p) (hv : autValid p = true) (ht : wordB t = true) :
    Calls Tryz.prog 96 #[.agg #[.int .i64 p.al, .slice B m d, .slice B' m' d'], .int .i64 0, .string t] w fun e w' => e = .returned (.int .i64 (runA p 0 (wl t) : Nat)) ∧ Ext w w' := by
  have HS := hide (fun W (hW : Ext w W) => h.ext hW)
  have hsz := word_size ht
  have Hb := hide (fun k hk => word_byte ht (k := k) hk)
  have hn1 := (autValid_row hv).2.1
  have Hv := hide hv
  have Hlt := hide (fun k => runA_lt hv (ls := (wl t).take k) (fun l hl => wl_lt ht l (List.mem_of_mem_take hl)) (q := 0) (by omega))
  clear h hv ht
  go_enter Tryz.func96, Tryz.ntmps96
  go_upto_region 1 with fail
  have hw1 : Ext w (w.alloc (.cells #[.int .i64 p.al, .slice B m d, .slice B' m' d'] 35)) := (Ext.refl w).alloc _
  have b1 := Blk.new w 35 #[.int .i64 p.al, .slice B m d, .slice B' m' d']
  generalize w.alloc (.cells #[.int .i64 p.al, .slice B m d, .slice B' m' d'] 35) = w1 at *
  go_wp2_with fail
  go_loopw [1, 7] (fun v i wr => ∃ k x : Nat, i = .int .i64 k ∧ k ≤ t.size ∧ v = .int .i64 x ∧ Hid (x = runA p 0 ((wl t).take k)) ∧ Ext w1 wr) (fun _ i _ => t.size - (intOf i).toNat)
  case atStart => exact ⟨0, 0, rfl, Nat.zero_le _, rfl, rfl, Ext.refl _⟩
  case round =>
    obtain ⟨k, x, rfl, hk, rfl, hxo, hxr⟩ := hrel
    by_cases hlt : k < t.size
    · have hbb := Hb.out k hlt
      obtain ⟨l, hl⟩ : ∃ l : Nat, Hid ((t[k].toNat : Int) - 97 = l) := ⟨t[k].toNat - 97, by unfold Hid; omega⟩
      have hl6 : l < 6 := by have := hl.out; omega
      have hst := hide (show aGo p x l = runA p 0 ((wl t).take (k + 1)) by
        rw [List.take_add_one, wl_get hlt, Option.toList_some, runA_snoc, ← hxo.out]
        congr 1
        have := hl.out; omega)
      have hxl : x < p.next.length := by rw [hxo.out]; exact Hlt.out k
      have HC := hide (fun W (hW : Ext w1 W) => spec_l3Go (d := d) (d' := d') (HS.out W (hw1.trans hW)) Hv.out hxl hl6)
      generalize aGo p x l = y at *
      have c1 : ∀ W, Ext wr W → ∀ j, W.cell? ⟨w.heap.size, j, none⟩ = #[Value.int .i64 p.al, .slice B m d, .slice B' m' d'][j]? := fun W hW => (b1.ext (hxr.trans hW)).cell
      have hww := Ext.refl wr
      clear hbb
      go_upto_region 4 with fail
      refine wp_region_tailU (fun X => Ext wr X) [5] (OrdU.of [0, 1, 2, 3, 4, 5, 6]) (by kernel_rfl) (by kernel_rfl) (by kernel_rfl) (by kernel_rfl) (by kernel_rfl) (fun _ _ _ _ _ h => h) (by first | assumption | exact (Ext.refl _).drew | (refine Ext.drew ?_; assumption)) ?_
      repeat (first | (refine useq_skip rfl rfl (by assumption) ?_; simp only [Act.put, List.setIfInBounds_toArray, List.set_cons_zero, List.set_cons_succ]) | (refine useq_pure (v := ?_) rfl rfl rfl rfl (fun X => ?_) ?_; rotate_left; (focus (go_simp <;> with_reducible rfl)); simp only [Act.put, List.setIfInBounds_toArray, List.set_cons_zero, List.set_cons_succ]) | (refine useq_read (v := ?_) rfl rfl rfl rfl (fun X hX => ?_) ?_; rotate_left; (focus (go_simp <;> with_reducible rfl)); simp only [Act.put, List.setIfInBounds_toArray, List.set_cons_zero, List.set_cons_succ]))
      (refine useq_step rfl rfl rfl (fun K hK => ?_); go_simp)
      refine (spec_l1At t k hlt _).mono ?_
      rw [hl.out]
      rintro e w' ⟨rfl, rfl⟩
      refine hK.out _ _ hww.drew ?_
      (try simp only [Act.put, List.setIfInBounds_toArray, List.set_cons_zero, List.set_cons_succ])
      (refine useq_last rfl rfl rfl rfl (fun K hK => ?_))
      go_simp
      refine (HC.out _ (hxr.trans hww.drew)).mono ?_
      rintro e w5 ⟨rfl, hx5⟩
      refine hK.out _ _ ?_
      (try simp only [Act.put, List.setIfInBounds_toArray, List.set_cons_zero, List.set_cons_succ])
      repeat (first | (refine useq_skip rfl rfl (by assumption) ?_; simp only [Act.put, List.setIfInBounds_toArray, List.set_cons_zero, List.set_cons_succ]) | (refine useq_pure (v := ?_) rfl rfl rfl rfl (fun X => ?_) ?_; rotate_left; (focus (go_simp <;> with_reducible rfl)); simp only [Act.put, List.setIfInBounds_toArray, List.set_cons_zero, List.set_cons_succ]) | (refine useq_read (v := ?_) rfl rfl rfl rfl (fun X hX => ?_) ?_; rotate_left; (focus (go_simp <;> with_reducible rfl)); simp only [Act.put, List.setIfInBounds_toArray, List.set_cons_zero, List.set_cons_succ]))
      refine useq_nil ?_
      have hx6 := hxr.trans (hww.drew.trans hx5)
      go_wp2_with fail
      go_roundw
      case rel => exact ⟨k + 1, y, by go_num, by omega, rfl, hst, hx6⟩
      case measure => simp [intOf]; omega
    · obtain rfl : k = t.size := by omega
      have hfin := hide (show x = runA p 0 (wl t) by rw [hxo.out, List.take_of_length_le (by rw [wl_len]; exact Nat.le_refl _)])
      go_wp2
      go_ret
      exact ⟨ret_int (by rw [hfin.out]), hw1.trans hxr⟩
set_option maxRecDepth 100000 in
theorem spec_BreaksProperty (h : AutAt w lo hi B m B' m' p) (ht : t.size ≤ 9223372036854775807) :
    Calls Tryz.prog 69 #[.agg #[.int .i64 p.al, .slice B m d, .slice B' m' d'], .string t] w fun e w' => e = .returned (.bool (breakB p t)) ∧ Ext w w' := by
  have HA := hide (fun W (hW : Ext w W) => spec_AutomatonValid _ _ _ _ d _ _ d' _ _ (h.ext hW))
  have HR := hide (fun W (hW : Ext w W) => spec_l3Run (d := d) (d' := d') (t := t) (h.ext hW))
  have HB := hide (fun W (hW : Ext w W) q hq => accB_cell (q := q) (h.ext hW) hq)
  have hm2 := hide h.n2
  clear h
  have hr := hide (show breakB p t = (autValid p && (wordB t && !accB p (runA p 0 (wl t)))) from rfl)
  have hw1 : Ext w (w.alloc (.cells #[.int .i64 p.al, .slice B m d, .slice B' m' d'] 35)) := (Ext.refl w).alloc _
  have b1 := Blk.new w 35 #[.int .i64 p.al, .slice B m d, .slice B' m' d']
  by_cases hall : autValid p = true ∧ wordB t = true
  · obtain ⟨h1, h2⟩ := hall
    have H1 := hide h1
    have H2 := hide h2
    have hq := runA_lt h1 (wl_lt h2) (q := 0) (by have := (autValid_row h1).2.1; omega)
    have hac := (autValid_row h1).2.2.1
    have hqm : runA p 0 (wl t) < m' := by have := hm2.out; omega
    clear h1 h2 hac
    go_enter Tryz.func69, Tryz.ntmps69
    go_upto_region 3 with (first
      | (go_at_call 27; refine (HA.out _ hw1).mono ?_; rw [H1.out]; rintro e w2 ⟨rfl, hx2⟩)
      | (go_at_call 67; refine (spec_WordValid _ _ ht).mono ?_; rw [H2.out]; rintro e w3 ⟨rfl, rfl⟩))
    have HR2 := hide (fun W hW => HR.out W hW H1.out H2.out)
    clear HR
    generalize hqe : runA p 0 (wl t) = q at *
    clear hqe hq
    obtain ⟨ad, hBe, _⟩ := HB.out w (Ext.refl w) q hqm
    have cA : ∀ W, Ext w W → W.cell? (ad.add q) = some (.bool (accB p q)) := by
      intro W hW
      obtain ⟨ad', e, hc⟩ := HB.out W hW q hqm
      rw [hBe] at e
      obtain rfl := Option.some.inj e
      exact hc
    subst hBe
    have hw2 := hw1.trans hx2
    generalize w.alloc (.cells #[.int .i64 p.al, .slice B m d, .slice (some ad) m' d'] 35) = w1 at *
    have c1 : ∀ W, Ext w2 W → ∀ j, W.cell? ⟨w.heap.size, j, none⟩ = #[Value.int .i64 p.al, .slice B m d, .slice (some ad) m' d'][j]? := fun W hW => (b1.ext (hx2.trans hW)).cell
    have dA : ∀ W, Ext w2 W → W.cell? (ad.add q) = some (.bool (accB p q)) := fun W hW => cA W (hw2.trans hW)
    have hww := Ext.refl w2
    refine wp_region_tailU (fun X => Ext w2 X) [] (OrdU.of [0, 1, 2, 3, 4, 5, 6, 7, 8]) (by kernel_rfl) (by kernel_rfl) (by kernel_rfl) (by kernel_rfl) (by kernel_rfl) (fun _ _ _ _ _ h => h) (by first | assumption | exact (Ext.refl _).drew | (refine Ext.drew ?_; assumption)) ?_
    repeat (first | (refine useq_skip rfl rfl (by assumption) ?_; simp only [Act.put, List.setIfInBounds_toArray, List.set_cons_zero, List.set_cons_succ]) | (refine useq_pure (v := ?_) rfl rfl rfl rfl (fun X => ?_) ?_; rotate_left; (focus (go_simp <;> with_reducible rfl)); simp only [Act.put, List.setIfInBounds_toArray, List.set_cons_zero, List.set_cons_succ]) | (refine useq_read (v := ?_) rfl rfl rfl rfl (fun X hX => ?_) ?_; rotate_left; (focus (go_simp <;> with_reducible rfl)); simp only [Act.put, List.setIfInBounds_toArray, List.set_cons_zero, List.set_cons_succ]))
    (refine useq_step rfl rfl rfl (fun K hK => ?_); go_simp)
    refine (HR2.out _ (hw2.trans hww.drew)).mono ?_
    rintro e w5 ⟨rfl, hx5⟩
    have hx6 := hww.drew.trans hx5
    refine hK.out _ _ hx6 ?_
    (try simp only [Act.put, List.setIfInBounds_toArray, List.set_cons_zero, List.set_cons_succ])
    repeat (first | (refine useq_skip rfl rfl (by assumption) ?_; simp only [Act.put, List.setIfInBounds_toArray, List.set_cons_zero, List.set_cons_succ]) | (refine useq_pure (v := ?_) rfl rfl rfl rfl (fun X => ?_) ?_; rotate_left; (focus (go_simp <;> with_reducible rfl)); simp only [Act.put, List.setIfInBounds_toArray, List.set_cons_zero, List.set_cons_succ]) | (refine useq_read (v := ?_) rfl rfl rfl rfl (fun X hX => ?_) ?_; rotate_left; (focus (go_simp <;> with_reducible rfl)); simp only [Act.put, List.setIfInBounds_toArray, List.set_cons_zero, List.set_cons_succ]))
    refine useq_nil ?_
    go_wp2_with fail
    go_ret
    exact ⟨ret_bool (by rw [hr.out, H1.out, H2.out]; rfl), hw2.trans hx6⟩
  · have hr2 := hide (show breakB p t = false by
      rw [hr.out]
      cases h1 : autValid p
      · rfl
      · cases h2 : wordB t
        · rfl
        · exact absurd ⟨h1, h2⟩ hall)
    cases h1 : autValid p <;> cases h2 : wordB t
    case true.true => exact absurd ⟨h1, h2⟩ hall
    all_goals
      have H1 := hide h1
      have H2 := hide h2
      clear h1 h2 hall
      go_enter Tryz.func69, Tryz.ntmps69
      go_wp2_with (first
        | (go_at_call 27; refine (HA.out _ hw1).mono ?_; rw [H1.out]; rintro e w2 ⟨rfl, hx2⟩)
        | (go_at_call 67; refine (spec_WordValid _ _ ht).mono ?_; rw [H2.out]; rintro e w3 ⟨rfl, rfl⟩))
      go_ret
      exact ⟨ret_bool (by rw [hr2.out]), hw1.trans hx2⟩
end
end Go.Proofs.YtplllipekeomiaaGreatDoor

namespace Go.Proofs.YtplllipekeomiaaGreatDoor
open Go Go.RowKit
set_option maxHeartbeats 4000000

section
variable {lo hi m d m' d' : Nat} {B B' : Option Addr} {p : Aut} {t : ByteArray} {w : World}
set_option maxRecDepth 100000 in
theorem impl_StateAfter (h : AutAt w lo hi B m B' m' p) (hv : autValid p = true) (ht : inB t p.al.toNat = true) :
    Calls Tryz.prog 101 #[.agg #[.int .i64 p.al, .slice B m d, .slice B' m' d'], .string t] w fun e w' => e = .returned (.int .i64 (runA p 0 (wl t) : Nat)) ∧ Ext w w' := by
  have HT := hide (fun W (hW : Ext w W) => impl_tableOf (d := d) (d' := d') (h.ext hW) hv)
  have HA := hide (fun W (hW : Ext w W) => impl_AutomatonValid _ _ _ _ d _ _ d' _ _ (h.ext hW))
  have hwd := inB_word ht
  have hsz := word_size hwd
  have Hb := hide (fun k hk => word_byte hwd (k := k) hk)
  have hn1 := (autValid_row hv).2.1
  obtain ⟨al0, al1⟩ := (autValid_row hv).1
  obtain ⟨al, hal⟩ : ∃ al : Nat, Hid (p.al = al) := ⟨p.al.toNat, by unfold Hid; omega⟩
  have hal6 : al ≤ 63 := by have := hal.out; omega
  have hto : p.al.toNat = al := by have := hal.out; omega
  rw [hto] at ht
  have Hi := hide (show (decide (t.size ≤ 50000) && overB t al) = true from ht)
  have Hv := hide hv
  have Hlt := hide (fun k => runA_lt hv (ls := (wl t).take k) (fun l hl => wl_lt hwd l (List.mem_of_mem_take hl)) (q := 0) (by omega))
  clear h hv ht hto hwd
  rw [hal.out] at HT HA ⊢
  clear al0 al1
  go_enter Tryz.func101, Tryz.ntmps101
  go_upto_region 1 with fail
  have hw1 : Ext w (w.alloc (.cells #[.int .i64 al, .slice B m d, .slice B' m' d'] 35)) := (Ext.refl w).alloc _
  have b1 := Blk.new w 35 #[.int .i64 al, .slice B m d, .slice B' m' d']
  generalize w.alloc (.cells #[.int .i64 al, .slice B m d, .slice B' m' d'] 35) = w1 at *
  have c1 := b1.cell
  go_wp2_with (first
    | (go_at_call 33; refine (HA.out _ hw1).mono ?_; rw [Hv.out]; rintro e w2 ⟨rfl, hx2⟩; have hw2 := hw1.trans hx2; have c2 := (b1.ext hx2).cell)
    | (go_at_call 75; refine (impl_WordWithin t al _ (by omega) hal6).mono ?_; rw [Hi.out]; rintro e w3 ⟨rfl, rfl⟩)
    | (go_at_call 112; refine (HT.out _ hw2).mono ?_; rintro e w4 ⟨TA, tc, rfl, hTO, hx4⟩))
  have hw4 := hw2.trans hx4
  have HM := hide (fun W (hW : Ext w4 W) => (hTO.ext hW).at_)
  clear hTO c1 c2
  go_loopw [6, 7, 22] (fun v _ i wr => ∃ k x : Nat, i = .int .i64 k ∧ k ≤ t.size ∧ v = .int .i64 x ∧ Hid (x = runA p 0 ((wl t).take k)) ∧ Ext w4 wr) (fun _ _ i _ => t.size - (intOf i).toNat)
  case atStart => exact ⟨0, 0, rfl, Nat.zero_le _, rfl, rfl, Ext.refl _⟩
  case round =>
    obtain ⟨k, x, rfl, hk, rfl, hxo, hxr⟩ := hrel
    by_cases hlt : k < t.size
    · have hbb := Hb.out k hlt
      obtain ⟨l, hl⟩ : ∃ l : Nat, Hid (ltr t[k].toNat = l ∧ l < 6 ∧ t[k].toNat - 97 = l) := ⟨t[k].toNat - 97, by unfold Hid ltr; rw [if_neg (by omega)]; omega⟩
      have hl6 := hl.out.2.1
      have hl6i : ((l : Nat) : Int) < 6 := by omega
      have hst := hide (show aGo p x l = runA p 0 ((wl t).take (k + 1)) by
        rw [List.take_add_one, wl_get hlt, Option.toList_some, runA_snoc, ← hxo.out, hl.out.2.2])
      have hxl : x < p.next.length := by rw [hxo.out]; exact Hlt.out k
      obtain ⟨lo2, hi2, hta⟩ := HM.out wr hxr
      have HC := hide (fun W (hW : Ext wr W) => (hta.ext hW).at_ hxl hl6)
      obtain ⟨g, o, hTA, hc0⟩ := hta.at_ hxl hl6
      subst hTA
      generalize aGo p x l = y at *
      have d1 : ∀ W, Ext wr W → W.cell? ⟨g, o + x * 6 + l, none⟩ = some (.int .i64 (y : Nat)) := fun W hW => hW.cell_some hc0
      clear hbb hta HC
      generalize p.next.length = N at *
      go_upto_region 8 with fail
      have hww := Ext.refl wr
      refine wp_region_tailU (fun X => Ext wr X) [] (OrdU.of [0, 1, 2, 3, 5, 4, 6, 7, 8]) (by kernel_rfl) (by kernel_rfl) (by kernel_rfl) (by kernel_rfl) (by kernel_rfl) (fun _ _ _ _ _ h => h) (by first | assumption | exact (Ext.refl _).drew | (refine Ext.drew ?_; assumption)) ?_
      repeat (first | (refine useq_skip rfl rfl (by assumption) ?_; simp only [Act.put, List.setIfInBounds_toArray, List.set_cons_zero, List.set_cons_succ]) | (refine useq_pure (v := ?_) rfl rfl rfl rfl (fun X => ?_) ?_; rotate_left; (focus (go_simp <;> with_reducible rfl)); simp only [Act.put, List.setIfInBounds_toArray, List.set_cons_zero, List.set_cons_succ]) | (refine useq_read (v := ?_) rfl rfl rfl rfl (fun X hX => ?_) ?_; rotate_left; (focus (go_simp <;> with_reducible rfl)); simp only [Act.put, List.setIfInBounds_toArray, List.set_cons_zero, List.set_cons_succ]))
      (refine useq_step rfl rfl rfl (fun K hK => ?_); go_simp)
      refine (impl_letterAt t k hlt _).mono ?_
      rw [hl.out.1]
      rintro e w' ⟨rfl, rfl⟩
      refine hK.out _ _ hww.drew ?_
      (try simp only [Act.put, List.setIfInBounds_toArray, List.set_cons_zero, List.set_cons_succ])
      repeat (first | (refine useq_skip rfl rfl (by assumption) ?_; simp only [Act.put, List.setIfInBounds_toArray, List.set_cons_zero, List.set_cons_succ]) | (refine useq_pure (v := ?_) rfl rfl rfl rfl (fun X => ?_) ?_; rotate_left; (focus (go_simp <;> with_reducible rfl)); simp only [Act.put, List.setIfInBounds_toArray, List.set_cons_zero, List.set_cons_succ]) | (refine useq_read (v := ?_) rfl rfl rfl rfl (fun X hX => ?_) ?_; rotate_left; (focus (go_simp <;> with_reducible rfl)); simp only [Act.put, List.setIfInBounds_toArray, List.set_cons_zero, List.set_cons_succ]))
      refine useq_nil ?_
      have hx6 := hxr.trans hww.drew
      go_wp2_with fail
      go_roundw
      case rel => exact ⟨k + 1, y, by go_num, by omega, rfl, hst, hx6⟩
      case measure => simp [intOf]; omega
    · obtain rfl : k = t.size := by omega
      have hfin := hide (show x = runA p 0 (wl t) by rw [hxo.out, List.take_of_length_le (by rw [wl_len]; exact Nat.le_refl _)])
      go_wp2
      go_ret
      exact ⟨ret_int (by rw [hfin.out]), hw4.trans hxr⟩
set_option maxRecDepth 100000 in
theorem impl_AcceptsWord (h : AutAt w lo hi B m B' m' p) (hv : autValid p = true) (ht : inB t p.al.toNat = true) :
    Calls Tryz.prog 79 #[.agg #[.int .i64 p.al, .slice B m d, .slice B' m' d'], .string t] w fun e w' => e = .returned (.bool (accB p (runA p 0 (wl t)))) ∧ Ext w w' := by
  have HA := hide (fun W (hW : Ext w W) => impl_StateAfter (d := d) (d' := d') (h.ext hW) hv ht)
  have HB := hide (fun W (hW : Ext w W) q hq => accB_cell (q := q) (h.ext hW) hq)
  have hq := runA_lt hv (wl_lt (inB_word ht)) (q := 0) (by have := (autValid_row hv).2.1; omega)
  have hac := (autValid_row hv).2.2.1
  have hm2 := h.n2
  have hqm : runA p 0 (wl t) < m' := by omega
  clear h hv ht hac
  generalize hqe : runA p 0 (wl t) = q at *
  clear hqe hq hm2
  obtain ⟨ad, hBe, _⟩ := HB.out w (Ext.refl w) q hqm
  have cA : ∀ W, Ext w W → W.cell? (ad.add q) = some (.bool (accB p q)) := by
    intro W hW
    obtain ⟨ad', e, hc⟩ := HB.out W hW q hqm
    rw [hBe] at e
    obtain rfl := Option.some.inj e
    exact hc
  subst hBe
  have hw1 : Ext w (w.alloc (.cells #[.int .i64 p.al, .slice B m d, .slice (some ad) m' d'] 35)) := (Ext.refl w).alloc _
  have b1 := Blk.new w 35 #[.int .i64 p.al, .slice B m d, .slice (some ad) m' d']
  go_enter Tryz.func79, Tryz.ntmps79
  go_upto_region 1 with fail
  generalize w.alloc (.cells #[.int .i64 p.al, .slice B m d, .slice (some ad) m' d'] 35) = w1 at *
  have c1 := b1.cell
  go_wp2_with (go_at_call 101; refine (HA.out _ hw1).mono ?_; rintro e w2 ⟨rfl, hx2⟩; have c2 := (b1.ext hx2).cell; have cA2 := cA _ (hw1.trans hx2))
  go_ret
  exact ⟨ret_bool (by rfl), hw1.trans hx2⟩
set_option maxRecDepth 100000 in
theorem impl_BreaksProperty (h : AutAt w lo hi B m B' m' p) (ht : t.size ≤ 9223372036854775807) :
    Calls Tryz.prog 47 #[.agg #[.int .i64 p.al, .slice B m d, .slice B' m' d'], .string t] w fun e w' => e = .returned (.bool (breakB p t)) ∧ Ext w w' := by
  have HA := hide (fun W (hW : Ext w W) => impl_AutomatonValid _ _ _ _ d _ _ d' _ _ (h.ext hW))
  have hr := hide (show breakB p t = (autValid p && (wordB t && !accB p (runA p 0 (wl t)))) from rfl)
  have hw1 : Ext w (w.alloc (.cells #[.int .i64 p.al, .slice B m d, .slice B' m' d'] 35)) := (Ext.refl w).alloc _
  have b1 := Blk.new w 35 #[.int .i64 p.al, .slice B m d, .slice B' m' d']
  cases h1 : autValid p
  · have H1 := hide h1
    clear h1
    go_enter Tryz.func47, Tryz.ntmps47
    go_upto_region 1 with fail
    generalize w.alloc (.cells #[.int .i64 p.al, .slice B m d, .slice B' m' d'] 35) = w1 at *
    have c1 : ∀ W, Ext w1 W → ∀ j, W.cell? ⟨w.heap.size, j, none⟩ = #[Value.int .i64 p.al, .slice B m d, .slice B' m' d'][j]? := fun W hW => (b1.ext hW).cell
    have hww := Ext.refl w1
    refine wp_region_tailU (fun X => Ext w1 X) [12] (OrdU.of [0, 1, 2, 3, 4, 5, 6, 7, 8, 9, 10, 11, 12, 13, 14, 15]) (by kernel_rfl) (by kernel_rfl) (by kernel_rfl) (by kernel_rfl) (by kernel_rfl) (fun _ _ _ _ _ h => h) (by first | assumption | exact (Ext.refl _).drew | (refine Ext.drew ?_; assumption)) ?_
    repeat (first | (refine useq_skip rfl rfl (by assumption) ?_; simp only [Act.put, List.setIfInBounds_toArray, List.set_cons_zero, List.set_cons_succ]) | (refine useq_pure (v := ?_) rfl rfl rfl rfl (fun X => ?_) ?_; rotate_left; (focus (go_simp <;> with_reducible rfl)); simp only [Act.put, List.setIfInBounds_toArray, List.set_cons_zero, List.set_cons_succ]) | (refine useq_read (v := ?_) rfl rfl rfl rfl (fun X hX => ?_) ?_; rotate_left; (focus (go_simp <;> with_reducible rfl)); simp only [Act.put, List.setIfInBounds_toArray, List.set_cons_zero, List.set_cons_succ]))
    (refine useq_step rfl rfl rfl (fun K hK => ?_); go_simp)
    refine (HA.out _ (hw1.trans hww.drew)).mono ?_
    rw [H1.out]
    rintro e w2 ⟨rfl, hx2⟩
    have hx3 := hww.drew.trans hx2
    refine hK.out _ _ hx3 ?_
    (try simp only [Act.put, List.setIfInBounds_toArray, List.set_cons_zero, List.set_cons_succ])
    repeat (first | (refine useq_skip rfl rfl (by assumption) ?_; simp only [Act.put, List.setIfInBounds_toArray, List.set_cons_zero, List.set_cons_succ]) | (refine useq_pure (v := ?_) rfl rfl rfl rfl (fun X => ?_) ?_; rotate_left; (focus (go_simp <;> with_reducible rfl)); simp only [Act.put, List.setIfInBounds_toArray, List.set_cons_zero, List.set_cons_succ]) | (refine useq_read (v := ?_) rfl rfl rfl rfl (fun X hX => ?_) ?_; rotate_left; (focus (go_simp <;> with_reducible rfl)); simp only [Act.put, List.setIfInBounds_toArray, List.set_cons_zero, List.set_cons_succ]))
    refine useq_nil ?_
    go_wp2_with fail
    go_ret
    exact ⟨ret_bool (by rw [hr.out, H1.out]; rfl), hw1.trans hx3⟩
  · cases h2 : wordB t
    · have H1 := hide h1
      have H2 := hide h2
      clear h1 h2
      go_enter Tryz.func47, Tryz.ntmps47
      go_upto_region 1 with fail
      generalize w.alloc (.cells #[.int .i64 p.al, .slice B m d, .slice B' m' d'] 35) = w1 at *
      have c1 : ∀ W, Ext w1 W → ∀ j, W.cell? ⟨w.heap.size, j, none⟩ = #[Value.int .i64 p.al, .slice B m d, .slice B' m' d'][j]? := fun W hW => (b1.ext hW).cell
      have hww := Ext.refl w1
      refine wp_region_tailU (fun X => Ext w1 X) [12] (OrdU.of [0, 1, 2, 3, 4, 5, 6, 7, 8, 9, 10, 11, 12, 13, 14, 15]) (by kernel_rfl) (by kernel_rfl) (by kernel_rfl) (by kernel_rfl) (by kernel_rfl) (fun _ _ _ _ _ h => h) (by first | assumption | exact (Ext.refl _).drew | (refine Ext.drew ?_; assumption)) ?_
      repeat (first | (refine useq_skip rfl rfl (by assumption) ?_; simp only [Act.put, List.setIfInBounds_toArray, List.set_cons_zero, List.set_cons_succ]) | (refine useq_pure (v := ?_) rfl rfl rfl rfl (fun X => ?_) ?_; rotate_left; (focus (go_simp <;> with_reducible rfl)); simp only [Act.put, List.setIfInBounds_toArray, List.set_cons_zero, List.set_cons_succ]) | (refine useq_read (v := ?_) rfl rfl rfl rfl (fun X hX => ?_) ?_; rotate_left; (focus (go_simp <;> with_reducible rfl)); simp only [Act.put, List.setIfInBounds_toArray, List.set_cons_zero, List.set_cons_succ]))
      (refine useq_step rfl rfl rfl (fun K hK => ?_); go_simp)
      refine (HA.out _ (hw1.trans hww.drew)).mono ?_
      rw [H1.out]
      rintro e w2 ⟨rfl, hx2⟩
      have hx3 := hww.drew.trans hx2
      refine hK.out _ _ hx3 ?_
      (try simp only [Act.put, List.setIfInBounds_toArray, List.set_cons_zero, List.set_cons_succ])
      repeat (first | (refine useq_skip rfl rfl (by assumption) ?_; simp only [Act.put, List.setIfInBounds_toArray, List.set_cons_zero, List.set_cons_succ]) | (refine useq_pure (v := ?_) rfl rfl rfl rfl (fun X => ?_) ?_; rotate_left; (focus (go_simp <;> with_reducible rfl)); simp only [Act.put, List.setIfInBounds_toArray, List.set_cons_zero, List.set_cons_succ]) | (refine useq_read (v := ?_) rfl rfl rfl rfl (fun X hX => ?_) ?_; rotate_left; (focus (go_simp <;> with_reducible rfl)); simp only [Act.put, List.setIfInBounds_toArray, List.set_cons_zero, List.set_cons_succ]))
      (refine useq_step rfl rfl rfl (fun K hK => ?_); go_simp)
      refine (impl_WordValid _ _ ht).mono ?_
      rw [H2.out]
      rintro e w3 ⟨rfl, rfl⟩
      refine hK.out _ _ hx3 ?_
      (try simp only [Act.put, List.setIfInBounds_toArray, List.set_cons_zero, List.set_cons_succ])
      repeat (first | (refine useq_skip rfl rfl (by assumption) ?_; simp only [Act.put, List.setIfInBounds_toArray, List.set_cons_zero, List.set_cons_succ]) | (refine useq_pure (v := ?_) rfl rfl rfl rfl (fun X => ?_) ?_; rotate_left; (focus (go_simp <;> with_reducible rfl)); simp only [Act.put, List.setIfInBounds_toArray, List.set_cons_zero, List.set_cons_succ]) | (refine useq_read (v := ?_) rfl rfl rfl rfl (fun X hX => ?_) ?_; rotate_left; (focus (go_simp <;> with_reducible rfl)); simp only [Act.put, List.setIfInBounds_toArray, List.set_cons_zero, List.set_cons_succ]))
      refine useq_nil ?_
      go_wp2_with fail
      go_ret
      exact ⟨ret_bool (by rw [hr.out, H1.out, H2.out]; rfl), hw1.trans hx3⟩
    · obtain ⟨al0, al1⟩ := (autValid_row h1).1
      obtain ⟨al, hal⟩ : ∃ al : Nat, Hid (p.al = al) := ⟨p.al.toNat, by unfold Hid; omega⟩
      have hal6 : al ≤ 63 := by have := hal.out; omega
      have hto := hide (show p.al.toNat = al by have := hal.out; omega)
      have HR := hide (fun W => impl_restrict (w := W) h2 hal6)
      have HW := hide (fun W (hW : Ext w W) => impl_AcceptsWord (d := d) (d' := d') (t := restB t al) (h.ext hW) h1 (by rw [hto.out]; exact restB_in h2 al))
      have hrr := hide (show runA p 0 (wl (restB t al)) = runA p 0 (wl t) by rw [wl_restB h2, ← hto.out, runA_filter])
      rw [hrr.out] at HW
      have H1 := hide h1
      have H2 := hide h2
      clear h h1 h2 al0 al1
      rw [hal.out] at HA HW hw1 b1 ⊢
      generalize restB t al = t' at *
      go_enter Tryz.func47, Tryz.ntmps47
      go_upto_region 1 with fail
      generalize w.alloc (.cells #[.int .i64 al, .slice B m d, .slice B' m' d'] 35) = w1 at *
      have c1 : ∀ W, Ext w1 W → ∀ j, W.cell? ⟨w.heap.size, j, none⟩ = #[Value.int .i64 al, .slice B m d, .slice B' m' d'][j]? := fun W hW => (b1.ext hW).cell
      have hww := Ext.refl w1
      refine wp_region_tailU (fun X => Ext w1 X) [12] (OrdU.of [0, 1, 2, 3, 4, 5, 6, 7, 8, 9, 10, 11, 12, 13, 14, 15]) (by kernel_rfl) (by kernel_rfl) (by kernel_rfl) (by kernel_rfl) (by kernel_rfl) (fun _ _ _ _ _ h => h) (by first | assumption | exact (Ext.refl _).drew | (refine Ext.drew ?_; assumption)) ?_
      repeat (first | (refine useq_skip rfl rfl (by assumption) ?_; simp only [Act.put, List.setIfInBounds_toArray, List.set_cons_zero, List.set_cons_succ]) | (refine useq_pure (v := ?_) rfl rfl rfl rfl (fun X => ?_) ?_; rotate_left; (focus (go_simp <;> with_reducible rfl)); simp only [Act.put, List.setIfInBounds_toArray, List.set_cons_zero, List.set_cons_succ]) | (refine useq_read (v := ?_) rfl rfl rfl rfl (fun X hX => ?_) ?_; rotate_left; (focus (go_simp <;> with_reducible rfl)); simp only [Act.put, List.setIfInBounds_toArray, List.set_cons_zero, List.set_cons_succ]))
      (refine useq_step rfl rfl rfl (fun K hK => ?_); go_simp)
      refine (HA.out _ (hw1.trans hww.drew)).mono ?_
      rw [H1.out]
      rintro e w2 ⟨rfl, hx2⟩
      have hx3 := hww.drew.trans hx2
      refine hK.out _ _ hx3 ?_
      (try simp only [Act.put, List.setIfInBounds_toArray, List.set_cons_zero, List.set_cons_succ])
      repeat (first | (refine useq_skip rfl rfl (by assumption) ?_; simp only [Act.put, List.setIfInBounds_toArray, List.set_cons_zero, List.set_cons_succ]) | (refine useq_pure (v := ?_) rfl rfl rfl rfl (fun X => ?_) ?_; rotate_left; (focus (go_simp <;> with_reducible rfl)); simp only [Act.put, List.setIfInBounds_toArray, List.set_cons_zero, List.set_cons_succ]) | (refine useq_read (v := ?_) rfl rfl rfl rfl (fun X hX => ?_) ?_; rotate_left; (focus (go_simp <;> with_reducible rfl)); simp only [Act.put, List.setIfInBounds_toArray, List.set_cons_zero, List.set_cons_succ]))
      (refine useq_step rfl rfl rfl (fun K hK => ?_); go_simp)
      refine (impl_WordValid _ _ ht).mono ?_
      rw [H2.out]
      rintro e w3 ⟨rfl, rfl⟩
      refine hK.out _ _ hx3 ?_
      (try simp only [Act.put, List.setIfInBounds_toArray, List.set_cons_zero, List.set_cons_succ])
      repeat (first | (refine useq_skip rfl rfl (by assumption) ?_; simp only [Act.put, List.setIfInBounds_toArray, List.set_cons_zero, List.set_cons_succ]) | (refine useq_pure (v := ?_) rfl rfl rfl rfl (fun X => ?_) ?_; rotate_left; (focus (go_simp <;> with_reducible rfl)); simp only [Act.put, List.setIfInBounds_toArray, List.set_cons_zero, List.set_cons_succ]) | (refine useq_read (v := ?_) rfl rfl rfl rfl (fun X hX => ?_) ?_; rotate_left; (focus (go_simp <;> with_reducible rfl)); simp only [Act.put, List.setIfInBounds_toArray, List.set_cons_zero, List.set_cons_succ]))
      (refine useq_step rfl rfl rfl (fun K hK => ?_); go_simp)
      refine (HR.out _).mono ?_
      rintro e w4 ⟨rfl, hx4⟩
      have hx5 := hx3.trans hx4
      refine hK.out _ _ hx5 ?_
      (try simp only [Act.put, List.setIfInBounds_toArray, List.set_cons_zero, List.set_cons_succ])
      repeat (first | (refine useq_skip rfl rfl (by assumption) ?_; simp only [Act.put, List.setIfInBounds_toArray, List.set_cons_zero, List.set_cons_succ]) | (refine useq_pure (v := ?_) rfl rfl rfl rfl (fun X => ?_) ?_; rotate_left; (focus (go_simp <;> with_reducible rfl)); simp only [Act.put, List.setIfInBounds_toArray, List.set_cons_zero, List.set_cons_succ]) | (refine useq_read (v := ?_) rfl rfl rfl rfl (fun X hX => ?_) ?_; rotate_left; (focus (go_simp <;> with_reducible rfl)); simp only [Act.put, List.setIfInBounds_toArray, List.set_cons_zero, List.set_cons_succ]))
      (refine useq_last rfl rfl rfl rfl (fun K hK => ?_))
      go_simp
      refine (HW.out _ (hw1.trans hx5)).mono ?_
      rintro e w6 ⟨rfl, hx6⟩
      refine hK.out _ _ ?_
      (try simp only [Act.put, List.setIfInBounds_toArray, List.set_cons_zero, List.set_cons_succ])
      repeat (first | (refine useq_skip rfl rfl (by assumption) ?_; simp only [Act.put, List.setIfInBounds_toArray, List.set_cons_zero, List.set_cons_succ]) | (refine useq_pure (v := ?_) rfl rfl rfl rfl (fun X => ?_) ?_; rotate_left; (focus (go_simp <;> with_reducible rfl)); simp only [Act.put, List.setIfInBounds_toArray, List.set_cons_zero, List.set_cons_succ]) | (refine useq_read (v := ?_) rfl rfl rfl rfl (fun X hX => ?_) ?_; rotate_left; (focus (go_simp <;> with_reducible rfl)); simp only [Act.put, List.setIfInBounds_toArray, List.set_cons_zero, List.set_cons_succ]))
      refine useq_nil ?_
      go_wp2_with fail
      go_ret
      exact ⟨ret_bool (by rw [hr.out, H1.out, H2.out]; rfl), hw1.trans (hx5.trans hx6)⟩
end
end Go.Proofs.YtplllipekeomiaaGreatDoor

namespace Go.Proofs.YtplllipekeomiaaGreatDoor
open Go Go.RowKit
set_option maxHeartbeats 4000000

/-- Two systems in a row of their own. -/
theorem sl_two {w : World} {g lo hi n c lo2 hi2 k c2 : Nat} {A C : Option Addr} {s t : Sys} (hb : Blk w g 54 #[.int .i64 s.al, .int .i64 s.st, .slice A n c, .int .i64 t.al, .int .i64 t.st, .slice C k c2]) (h : SysAt w lo hi A n s) (h' : SysAt w lo2 hi2 C k t) : ∃ lo hi, SLAt w lo hi (some ⟨g, 0, none⟩) 2 [s, t] := by
  refine ⟨0, hi + hi2 + g + 1, rfl, [.int .i64 s.al, .int .i64 s.st, .slice A n c, .int .i64 t.al, .int .i64 t.st, .slice C k c2], ⟨rfl, by omega, fun _ => ⟨_, rfl, Nat.zero_le _, by dsimp only; omega, fun j u hu => ?_⟩⟩, fun j u hu => ?_⟩
  · rw [addr_lit, Nat.zero_add, hb.cell]
    simpa using hu
  · match j with
    | 0 =>
      simp at hu; subst hu
      exact ⟨A, n, c, rfl, rfl, rfl, h.1, h.2.more (Nat.zero_le _) (by omega)⟩
    | 1 =>
      simp at hu; subst hu
      exact ⟨C, k, c2, rfl, rfl, rfl, h'.1, h'.2.more (Nat.zero_le _) (by omega)⟩
    | j + 2 => simp at hu
/-- What l13Trace returns. -/
def traceZ (s t : Sys) (p : Aut) (x : ByteArray) : Int := if topB [s, t] x = false then 6 else if breakB p x = false then 7 else 0
/-- What CheckCertificate returns. -/
noncomputable def checkZ (s t : Sys) (p : Aut) (hd : Bool) (a : Aut) (x : ByteArray) : Int :=
  if iface s p t < 0 then 1 else if certValid hd a x = false then 2 else if hd = false then traceZ s t p x
  else if faultA s t p a = 2 then 3 else if faultA s t p a = 3 then 4 else if faultA s t p a = 4 then 5 else 0
theorem iface_neg (s t : Sys) (p : Aut) : iface s p t < 0 ↔ (sysValid s && (autValid p && sysValid t)) = false := by
  unfold iface
  cases h : (sysValid s && (autValid p && sysValid t))
  · simp
  · simp
section
variable {lo hi n c : Nat} {A : Option Addr} {s : Sys} {lo1 hi1 m1 d1 m1' d1' : Nat} {B B' : Option Addr} {p : Aut} {lo2 hi2 k c2 : Nat} {C : Option Addr} {t : Sys} {x : ByteArray} {w : World}
set_option maxRecDepth 100000 in
theorem spec_l13Trace (h : SysAt w lo hi A n s) (ht : SysAt w lo2 hi2 C k t) (hp : AutAt w lo1 hi1 B m1 B' m1' p) (hx : x.size ≤ 9223372036854775807) :
    Calls Tryz.prog 41 #[.agg #[.int .i64 s.al, .int .i64 s.st, .slice A n c], .agg #[.int .i64 t.al, .int .i64 t.st, .slice C k c2], .agg #[.int .i64 p.al, .slice B m1 d1, .slice B' m1' d1'], .string x] w fun e w' => e = .returned (.int .i64 (traceZ s t p x)) ∧ Ext w w' := by
  have HS := hide (fun W (hW : Ext w W) => h.ext hW)
  have HS' := hide (fun W (hW : Ext w W) => ht.ext hW)
  have HB := hide (fun W (hW : Ext w W) => spec_BreaksProperty (d := d1) (d' := d1') (hp.ext hW) hx)
  have hr := hide (show traceZ s t p x = if topB [s, t] x = false then 6 else if breakB p x = false then 7 else 0 from rfl)
  clear h ht hp
  have hw1 : Ext w (((w.alloc (.cells #[.int .i64 s.al, .int .i64 s.st, .slice A n c] 54)).alloc (.cells #[.int .i64 t.al, .int .i64 t.st, .slice C k c2] 54)).alloc (.cells #[.int .i64 p.al, .slice B m1 d1, .slice B' m1' d1'] 35)) := (((Ext.refl w).alloc _).alloc _).alloc _
  obtain ⟨b1, b2, b3⟩ := ext_blk3 (Ext.refl (((w.alloc (.cells #[.int .i64 s.al, .int .i64 s.st, .slice A n c] 54)).alloc (.cells #[.int .i64 t.al, .int .i64 t.st, .slice C k c2] 54)).alloc (.cells #[.int .i64 p.al, .slice B m1 d1, .slice B' m1' d1'] 35)))
  cases h1 : topB [s, t] x <;> cases h2 : breakB p x
  all_goals
    have H1 := hide h1
    have H2 := hide h2
    clear h1 h2
    go_enter Tryz.func41, Tryz.ntmps41
    go_upto_region 1 with fail
    generalize ((w.alloc (.cells #[.int .i64 s.al, .int .i64 s.st, .slice A n c] 54)).alloc (.cells #[.int .i64 t.al, .int .i64 t.st, .slice C k c2] 54)).alloc (.cells #[.int .i64 p.al, .slice B m1 d1, .slice B' m1' d1'] 35) = w1 at *
    have c1 : ∀ W, Ext w1 W → ∀ j, W.cell? ⟨w.heap.size, j, none⟩ = #[Value.int .i64 s.al, .int .i64 s.st, .slice A n c][j]? := fun W hW => (b1.ext hW).cell
    have c2' : ∀ W, Ext w1 W → ∀ j, W.cell? ⟨w.heap.size + 1, j, none⟩ = #[Value.int .i64 t.al, .int .i64 t.st, .slice C k c2][j]? := fun W hW => (b2.ext hW).cell
    have c3 : ∀ W, Ext w1 W → ∀ j, W.cell? ⟨w.heap.size + 1 + 1, j, none⟩ = #[Value.int .i64 p.al, .slice B m1 d1, .slice B' m1' d1'][j]? := fun W hW => (b3.ext hW).cell
    have hx0 := Ext.refl w1
    have e6 := Blk.new w1 54 #[.int .i64 s.al, .int .i64 s.st, .slice A n c, .int .i64 t.al, .int .i64 t.st, .slice C k c2]
    have f6 := (Ext.refl w1).alloc (.cells #[.int .i64 s.al, .int .i64 s.st, .slice A n c, .int .i64 t.al, .int .i64 t.st, .slice C k c2] 54)
    obtain ⟨l1, l2, hsl⟩ := sl_two e6 (HS.out _ (hw1.trans f6)) (HS'.out _ (hw1.trans f6))
    go_wp2_with (first
      | (go_at_call 68; with_reducible refine (spec_TraceOfParts hsl hx).mono ?_; rw [H1.out]; rintro e w2 ⟨rfl, hx2⟩; have hx12 := f6.trans hx2)
      | (go_at_call 69; with_reducible refine (HB.out _ (hw1.trans hx12)).mono ?_; rw [H2.out]; rintro e w3 ⟨rfl, hx3⟩; have hx13 := hx12.trans hx3))
    go_ret
    exact ⟨ret_int (by rw [hr.out, H1.out]; try rw [H2.out]; try rfl), hw1.trans (by first | exact hx13 | exact hx12)⟩
variable {lo3 hi3 m2 d2 m2' d2' : Nat} {D D' : Option Addr} {a : Aut} {hd : Bool}
set_option maxRecDepth 100000 in
theorem spec_CheckCertificate (h : SysAt w lo hi A n s) (ht : SysAt w lo2 hi2 C k t) (hp : AutAt w lo1 hi1 B m1 B' m1' p) (ha : AutAt w lo3 hi3 D m2 D' m2' a) (hxs : x.size ≤ 9223372036854775807) :
    Calls Tryz.prog 18 #[.agg #[.int .i64 s.al, .int .i64 s.st, .slice A n c], .agg #[.int .i64 t.al, .int .i64 t.st, .slice C k c2], .agg #[.int .i64 p.al, .slice B m1 d1, .slice B' m1' d1'], .agg #[.bool hd, .int .i64 a.al, .slice D m2 d2, .slice D' m2' d2', .string x]] w fun e w' => e = .returned (.int .i64 (checkZ s t p hd a x)) ∧ Ext w w' := by
  have HI := hide (fun W (hW : Ext w W) => spec_InterfaceOf (c := c) (d1 := d1) (d1' := d1') (c2 := c2) (h.ext hW) (hp.ext hW) (ht.ext hW))
  have HT := hide (fun W (hW : Ext w W) => spec_l13Trace (c := c) (d1 := d1) (d1' := d1') (c2 := c2) (x := x) (h.ext hW) (ht.ext hW) (hp.ext hW) hxs)
  have HC := hide (fun W (hW : Ext w W) => spec_CertificateValid _ _ _ _ d2 _ _ d2' hd _ x _ (ha.ext hW) hxs)
  have HF := hide (fun W (hW : Ext w W) => spec_AssumptionFault (c := c) (d1 := d1) (d1' := d1') (c2 := c2) (d2 := d2) (d2' := d2') (h.ext hW) (ht.ext hW) (hp.ext hW) (ha.ext hW))
  have hr := hide (show checkZ s t p hd a x = if iface s p t < 0 then 1 else if certValid hd a x = false then 2 else if hd = false then traceZ s t p x
    else if faultA s t p a = 2 then 3 else if faultA s t p a = 3 then 4 else if faultA s t p a = 4 then 5 else 0 from rfl)
  clear h hp ht ha
  have hw1 : Ext w ((((w.alloc (.cells #[.int .i64 s.al, .int .i64 s.st, .slice A n c] 54)).alloc (.cells #[.int .i64 t.al, .int .i64 t.st, .slice C k c2] 54)).alloc (.cells #[.int .i64 p.al, .slice B m1 d1, .slice B' m1' d1'] 35)).alloc (.cells #[.bool hd, .int .i64 a.al, .slice D m2 d2, .slice D' m2' d2', .string x] 57)) := ((((Ext.refl w).alloc _).alloc _).alloc _).alloc _
  obtain ⟨b1, b2, b3, b4⟩ := ext_blk4 (Ext.refl ((((w.alloc (.cells #[.int .i64 s.al, .int .i64 s.st, .slice A n c] 54)).alloc (.cells #[.int .i64 t.al, .int .i64 t.st, .slice C k c2] 54)).alloc (.cells #[.int .i64 p.al, .slice B m1 d1, .slice B' m1' d1'] 35)).alloc (.cells #[.bool hd, .int .i64 a.al, .slice D m2 d2, .slice D' m2' d2', .string x] 57)))
  generalize iface s p t = I at *
  generalize traceZ s t p x = R at *
  generalize faultA s t p a = F at *
  by_cases hI : I < 0
  · rw [if_pos hI] at hr
    have hv := hide (rfl : true = true)
    have hv2 := hide (rfl : true = true)
    generalize certValid hd a x = cv at *
    go_enter Tryz.func18, Tryz.ntmps18
    go_upto_region 1 with fail
    generalize (((w.alloc (.cells #[.int .i64 s.al, .int .i64 s.st, .slice A n c] 54)).alloc (.cells #[.int .i64 t.al, .int .i64 t.st, .slice C k c2] 54)).alloc (.cells #[.int .i64 p.al, .slice B m1 d1, .slice B' m1' d1'] 35)).alloc (.cells #[.bool hd, .int .i64 a.al, .slice D m2 d2, .slice D' m2' d2', .string x] 57) = w1 at *
    have c1 : ∀ W, Ext w1 W → ∀ j, W.cell? ⟨w.heap.size, j, none⟩ = #[Value.int .i64 s.al, .int .i64 s.st, .slice A n c][j]? := fun W hW => (b1.ext hW).cell
    have c2' : ∀ W, Ext w1 W → ∀ j, W.cell? ⟨w.heap.size + 1, j, none⟩ = #[Value.int .i64 t.al, .int .i64 t.st, .slice C k c2][j]? := fun W hW => (b2.ext hW).cell
    have c3 : ∀ W, Ext w1 W → ∀ j, W.cell? ⟨w.heap.size + 1 + 1, j, none⟩ = #[Value.int .i64 p.al, .slice B m1 d1, .slice B' m1' d1'][j]? := fun W hW => (b3.ext hW).cell
    have c4 : ∀ W, Ext w1 W → ∀ j, W.cell? ⟨w.heap.size + 1 + 1 + 1, j, none⟩ = #[Value.bool hd, .int .i64 a.al, .slice D m2 d2, .slice D' m2' d2', .string x][j]? := fun W hW => (b4.ext hW).cell
    have hx0 := Ext.refl w1
    go_wp2_with (first
      | (go_at_call 39; with_reducible refine (HI.out _ hw1).mono ?_; rintro e w2 ⟨rfl, hx2⟩; have hw2 := hw1.trans hx2)
      | (go_at_call 40; with_reducible refine (HC.out _ hw2).mono ?_; rintro e w3 ⟨rfl, hx3⟩; have hx13 := hx2.trans hx3; have hw3 := hw1.trans hx13)
      | (go_at_call 41; with_reducible refine (HT.out _ hw3).mono ?_; rintro e w4 ⟨rfl, hx4⟩; have hw4 := hw3.trans hx4)
      | (go_at_call 42; with_reducible refine (HF.out _ hw3).mono ?_; rintro e w4 ⟨rfl, hx4⟩; have hw4 := hw3.trans hx4))
    go_ret
    exact ⟨ret_int (by rw [hr.out]; try rfl), by first | exact hw4 | exact hw3 | exact hw2⟩
  have hI1 : 0 ≤ I := by omega
  rw [if_neg hI] at hr
  cases hv0 : certValid hd a x
  · rw [hv0, if_pos rfl] at hr
    have hv := hide hv0
    clear hv0
    rw [hv.out] at HC
    go_enter Tryz.func18, Tryz.ntmps18
    go_upto_region 1 with fail
    generalize (((w.alloc (.cells #[.int .i64 s.al, .int .i64 s.st, .slice A n c] 54)).alloc (.cells #[.int .i64 t.al, .int .i64 t.st, .slice C k c2] 54)).alloc (.cells #[.int .i64 p.al, .slice B m1 d1, .slice B' m1' d1'] 35)).alloc (.cells #[.bool hd, .int .i64 a.al, .slice D m2 d2, .slice D' m2' d2', .string x] 57) = w1 at *
    have c1 : ∀ W, Ext w1 W → ∀ j, W.cell? ⟨w.heap.size, j, none⟩ = #[Value.int .i64 s.al, .int .i64 s.st, .slice A n c][j]? := fun W hW => (b1.ext hW).cell
    have c2' : ∀ W, Ext w1 W → ∀ j, W.cell? ⟨w.heap.size + 1, j, none⟩ = #[Value.int .i64 t.al, .int .i64 t.st, .slice C k c2][j]? := fun W hW => (b2.ext hW).cell
    have c3 : ∀ W, Ext w1 W → ∀ j, W.cell? ⟨w.heap.size + 1 + 1, j, none⟩ = #[Value.int .i64 p.al, .slice B m1 d1, .slice B' m1' d1'][j]? := fun W hW => (b3.ext hW).cell
    have c4 : ∀ W, Ext w1 W → ∀ j, W.cell? ⟨w.heap.size + 1 + 1 + 1, j, none⟩ = #[Value.bool hd, .int .i64 a.al, .slice D m2 d2, .slice D' m2' d2', .string x][j]? := fun W hW => (b4.ext hW).cell
    have hx0 := Ext.refl w1
    go_wp2_with (first
      | (go_at_call 39; with_reducible refine (HI.out _ hw1).mono ?_; rintro e w2 ⟨rfl, hx2⟩; have hw2 := hw1.trans hx2)
      | (go_at_call 40; with_reducible refine (HC.out _ hw2).mono ?_; rintro e w3 ⟨rfl, hx3⟩; have hx13 := hx2.trans hx3; have hw3 := hw1.trans hx13)
      | (go_at_call 41; with_reducible refine (HT.out _ hw3).mono ?_; rintro e w4 ⟨rfl, hx4⟩; have hw4 := hw3.trans hx4)
      | (go_at_call 42; with_reducible refine (HF.out _ hw3).mono ?_; rintro e w4 ⟨rfl, hx4⟩; have hw4 := hw3.trans hx4))
    go_ret
    exact ⟨ret_int (by rw [hr.out]; try rfl), by first | exact hw4 | exact hw3 | exact hw2⟩
  rw [hv0, if_neg (by decide)] at hr
  have hv := hide hv0
  clear hv0
  rw [hv.out] at HC
  cases hd
  · rw [if_pos rfl] at hr
    go_enter Tryz.func18, Tryz.ntmps18
    go_upto_region 1 with fail
    generalize (((w.alloc (.cells #[.int .i64 s.al, .int .i64 s.st, .slice A n c] 54)).alloc (.cells #[.int .i64 t.al, .int .i64 t.st, .slice C k c2] 54)).alloc (.cells #[.int .i64 p.al, .slice B m1 d1, .slice B' m1' d1'] 35)).alloc (.cells #[.bool false, .int .i64 a.al, .slice D m2 d2, .slice D' m2' d2', .string x] 57) = w1 at *
    have c1 : ∀ W, Ext w1 W → ∀ j, W.cell? ⟨w.heap.size, j, none⟩ = #[Value.int .i64 s.al, .int .i64 s.st, .slice A n c][j]? := fun W hW => (b1.ext hW).cell
    have c2' : ∀ W, Ext w1 W → ∀ j, W.cell? ⟨w.heap.size + 1, j, none⟩ = #[Value.int .i64 t.al, .int .i64 t.st, .slice C k c2][j]? := fun W hW => (b2.ext hW).cell
    have c3 : ∀ W, Ext w1 W → ∀ j, W.cell? ⟨w.heap.size + 1 + 1, j, none⟩ = #[Value.int .i64 p.al, .slice B m1 d1, .slice B' m1' d1'][j]? := fun W hW => (b3.ext hW).cell
    have c4 : ∀ W, Ext w1 W → ∀ j, W.cell? ⟨w.heap.size + 1 + 1 + 1, j, none⟩ = #[Value.bool false, .int .i64 a.al, .slice D m2 d2, .slice D' m2' d2', .string x][j]? := fun W hW => (b4.ext hW).cell
    have hx0 := Ext.refl w1
    go_wp2_with (first
      | (go_at_call 39; with_reducible refine (HI.out _ hw1).mono ?_; rintro e w2 ⟨rfl, hx2⟩; have hw2 := hw1.trans hx2)
      | (go_at_call 40; with_reducible refine (HC.out _ hw2).mono ?_; rintro e w3 ⟨rfl, hx3⟩; have hx13 := hx2.trans hx3; have hw3 := hw1.trans hx13)
      | (go_at_call 41; with_reducible refine (HT.out _ hw3).mono ?_; rintro e w4 ⟨rfl, hx4⟩; have hw4 := hw3.trans hx4)
      | (go_at_call 42; with_reducible refine (HF.out _ hw3).mono ?_; rintro e w4 ⟨rfl, hx4⟩; have hw4 := hw3.trans hx4))
    go_ret
    exact ⟨ret_int (by rw [hr.out]; try rfl), by first | exact hw4 | exact hw3 | exact hw2⟩
  rw [if_neg (by decide)] at hr
  by_cases f2 : F = 2
  · subst f2
    rw [if_pos rfl] at hr
    go_enter Tryz.func18, Tryz.ntmps18
    go_upto_region 1 with fail
    generalize (((w.alloc (.cells #[.int .i64 s.al, .int .i64 s.st, .slice A n c] 54)).alloc (.cells #[.int .i64 t.al, .int .i64 t.st, .slice C k c2] 54)).alloc (.cells #[.int .i64 p.al, .slice B m1 d1, .slice B' m1' d1'] 35)).alloc (.cells #[.bool true, .int .i64 a.al, .slice D m2 d2, .slice D' m2' d2', .string x] 57) = w1 at *
    have c1 : ∀ W, Ext w1 W → ∀ j, W.cell? ⟨w.heap.size, j, none⟩ = #[Value.int .i64 s.al, .int .i64 s.st, .slice A n c][j]? := fun W hW => (b1.ext hW).cell
    have c2' : ∀ W, Ext w1 W → ∀ j, W.cell? ⟨w.heap.size + 1, j, none⟩ = #[Value.int .i64 t.al, .int .i64 t.st, .slice C k c2][j]? := fun W hW => (b2.ext hW).cell
    have c3 : ∀ W, Ext w1 W → ∀ j, W.cell? ⟨w.heap.size + 1 + 1, j, none⟩ = #[Value.int .i64 p.al, .slice B m1 d1, .slice B' m1' d1'][j]? := fun W hW => (b3.ext hW).cell
    have c4 : ∀ W, Ext w1 W → ∀ j, W.cell? ⟨w.heap.size + 1 + 1 + 1, j, none⟩ = #[Value.bool true, .int .i64 a.al, .slice D m2 d2, .slice D' m2' d2', .string x][j]? := fun W hW => (b4.ext hW).cell
    have hx0 := Ext.refl w1
    go_wp2_with (first
      | (go_at_call 39; with_reducible refine (HI.out _ hw1).mono ?_; rintro e w2 ⟨rfl, hx2⟩; have hw2 := hw1.trans hx2)
      | (go_at_call 40; with_reducible refine (HC.out _ hw2).mono ?_; rintro e w3 ⟨rfl, hx3⟩; have hx13 := hx2.trans hx3; have hw3 := hw1.trans hx13)
      | (go_at_call 41; with_reducible refine (HT.out _ hw3).mono ?_; rintro e w4 ⟨rfl, hx4⟩; have hw4 := hw3.trans hx4)
      | (go_at_call 42; with_reducible refine (HF.out _ hw3).mono ?_; rintro e w4 ⟨rfl, hx4⟩; have hw4 := hw3.trans hx4))
    go_ret
    exact ⟨ret_int (by rw [hr.out]; try rfl), by first | exact hw4 | exact hw3 | exact hw2⟩
  rw [if_neg f2] at hr
  have g2 : (F == 2) = false := by simpa using f2
  by_cases f3 : F = 3
  · subst f3
    rw [if_pos rfl] at hr
    go_enter Tryz.func18, Tryz.ntmps18
    go_upto_region 1 with fail
    generalize (((w.alloc (.cells #[.int .i64 s.al, .int .i64 s.st, .slice A n c] 54)).alloc (.cells #[.int .i64 t.al, .int .i64 t.st, .slice C k c2] 54)).alloc (.cells #[.int .i64 p.al, .slice B m1 d1, .slice B' m1' d1'] 35)).alloc (.cells #[.bool true, .int .i64 a.al, .slice D m2 d2, .slice D' m2' d2', .string x] 57) = w1 at *
    have c1 : ∀ W, Ext w1 W → ∀ j, W.cell? ⟨w.heap.size, j, none⟩ = #[Value.int .i64 s.al, .int .i64 s.st, .slice A n c][j]? := fun W hW => (b1.ext hW).cell
    have c2' : ∀ W, Ext w1 W → ∀ j, W.cell? ⟨w.heap.size + 1, j, none⟩ = #[Value.int .i64 t.al, .int .i64 t.st, .slice C k c2][j]? := fun W hW => (b2.ext hW).cell
    have c3 : ∀ W, Ext w1 W → ∀ j, W.cell? ⟨w.heap.size + 1 + 1, j, none⟩ = #[Value.int .i64 p.al, .slice B m1 d1, .slice B' m1' d1'][j]? := fun W hW => (b3.ext hW).cell
    have c4 : ∀ W, Ext w1 W → ∀ j, W.cell? ⟨w.heap.size + 1 + 1 + 1, j, none⟩ = #[Value.bool true, .int .i64 a.al, .slice D m2 d2, .slice D' m2' d2', .string x][j]? := fun W hW => (b4.ext hW).cell
    have hx0 := Ext.refl w1
    go_wp2_with (first
      | (go_at_call 39; with_reducible refine (HI.out _ hw1).mono ?_; rintro e w2 ⟨rfl, hx2⟩; have hw2 := hw1.trans hx2)
      | (go_at_call 40; with_reducible refine (HC.out _ hw2).mono ?_; rintro e w3 ⟨rfl, hx3⟩; have hx13 := hx2.trans hx3; have hw3 := hw1.trans hx13)
      | (go_at_call 41; with_reducible refine (HT.out _ hw3).mono ?_; rintro e w4 ⟨rfl, hx4⟩; have hw4 := hw3.trans hx4)
      | (go_at_call 42; with_reducible refine (HF.out _ hw3).mono ?_; rintro e w4 ⟨rfl, hx4⟩; have hw4 := hw3.trans hx4))
    go_ret
    exact ⟨ret_int (by rw [hr.out]; try rfl), by first | exact hw4 | exact hw3 | exact hw2⟩
  rw [if_neg f3] at hr
  have g3 : (F == 3) = false := by simpa using f3
  by_cases f4 : F = 4
  · subst f4
    rw [if_pos rfl] at hr
    go_enter Tryz.func18, Tryz.ntmps18
    go_upto_region 1 with fail
    generalize (((w.alloc (.cells #[.int .i64 s.al, .int .i64 s.st, .slice A n c] 54)).alloc (.cells #[.int .i64 t.al, .int .i64 t.st, .slice C k c2] 54)).alloc (.cells #[.int .i64 p.al, .slice B m1 d1, .slice B' m1' d1'] 35)).alloc (.cells #[.bool true, .int .i64 a.al, .slice D m2 d2, .slice D' m2' d2', .string x] 57) = w1 at *
    have c1 : ∀ W, Ext w1 W → ∀ j, W.cell? ⟨w.heap.size, j, none⟩ = #[Value.int .i64 s.al, .int .i64 s.st, .slice A n c][j]? := fun W hW => (b1.ext hW).cell
    have c2' : ∀ W, Ext w1 W → ∀ j, W.cell? ⟨w.heap.size + 1, j, none⟩ = #[Value.int .i64 t.al, .int .i64 t.st, .slice C k c2][j]? := fun W hW => (b2.ext hW).cell
    have c3 : ∀ W, Ext w1 W → ∀ j, W.cell? ⟨w.heap.size + 1 + 1, j, none⟩ = #[Value.int .i64 p.al, .slice B m1 d1, .slice B' m1' d1'][j]? := fun W hW => (b3.ext hW).cell
    have c4 : ∀ W, Ext w1 W → ∀ j, W.cell? ⟨w.heap.size + 1 + 1 + 1, j, none⟩ = #[Value.bool true, .int .i64 a.al, .slice D m2 d2, .slice D' m2' d2', .string x][j]? := fun W hW => (b4.ext hW).cell
    have hx0 := Ext.refl w1
    go_wp2_with (first
      | (go_at_call 39; with_reducible refine (HI.out _ hw1).mono ?_; rintro e w2 ⟨rfl, hx2⟩; have hw2 := hw1.trans hx2)
      | (go_at_call 40; with_reducible refine (HC.out _ hw2).mono ?_; rintro e w3 ⟨rfl, hx3⟩; have hx13 := hx2.trans hx3; have hw3 := hw1.trans hx13)
      | (go_at_call 41; with_reducible refine (HT.out _ hw3).mono ?_; rintro e w4 ⟨rfl, hx4⟩; have hw4 := hw3.trans hx4)
      | (go_at_call 42; with_reducible refine (HF.out _ hw3).mono ?_; rintro e w4 ⟨rfl, hx4⟩; have hw4 := hw3.trans hx4))
    go_ret
    exact ⟨ret_int (by rw [hr.out]; try rfl), by first | exact hw4 | exact hw3 | exact hw2⟩
  · rw [if_neg f4] at hr
    have g4 : (F == 4) = false := by simpa using f4
    go_enter Tryz.func18, Tryz.ntmps18
    go_upto_region 1 with fail
    generalize (((w.alloc (.cells #[.int .i64 s.al, .int .i64 s.st, .slice A n c] 54)).alloc (.cells #[.int .i64 t.al, .int .i64 t.st, .slice C k c2] 54)).alloc (.cells #[.int .i64 p.al, .slice B m1 d1, .slice B' m1' d1'] 35)).alloc (.cells #[.bool true, .int .i64 a.al, .slice D m2 d2, .slice D' m2' d2', .string x] 57) = w1 at *
    have c1 : ∀ W, Ext w1 W → ∀ j, W.cell? ⟨w.heap.size, j, none⟩ = #[Value.int .i64 s.al, .int .i64 s.st, .slice A n c][j]? := fun W hW => (b1.ext hW).cell
    have c2' : ∀ W, Ext w1 W → ∀ j, W.cell? ⟨w.heap.size + 1, j, none⟩ = #[Value.int .i64 t.al, .int .i64 t.st, .slice C k c2][j]? := fun W hW => (b2.ext hW).cell
    have c3 : ∀ W, Ext w1 W → ∀ j, W.cell? ⟨w.heap.size + 1 + 1, j, none⟩ = #[Value.int .i64 p.al, .slice B m1 d1, .slice B' m1' d1'][j]? := fun W hW => (b3.ext hW).cell
    have c4 : ∀ W, Ext w1 W → ∀ j, W.cell? ⟨w.heap.size + 1 + 1 + 1, j, none⟩ = #[Value.bool true, .int .i64 a.al, .slice D m2 d2, .slice D' m2' d2', .string x][j]? := fun W hW => (b4.ext hW).cell
    have hx0 := Ext.refl w1
    go_wp2_with (first
      | (go_at_call 39; with_reducible refine (HI.out _ hw1).mono ?_; rintro e w2 ⟨rfl, hx2⟩; have hw2 := hw1.trans hx2)
      | (go_at_call 40; with_reducible refine (HC.out _ hw2).mono ?_; rintro e w3 ⟨rfl, hx3⟩; have hx13 := hx2.trans hx3; have hw3 := hw1.trans hx13)
      | (go_at_call 41; with_reducible refine (HT.out _ hw3).mono ?_; rintro e w4 ⟨rfl, hx4⟩; have hw4 := hw3.trans hx4)
      | (go_at_call 42; with_reducible refine (HF.out _ hw3).mono ?_; rintro e w4 ⟨rfl, hx4⟩; have hw4 := hw3.trans hx4))
    go_ret
    exact ⟨ret_int (by rw [hr.out]; try rfl), by first | exact hw4 | exact hw3 | exact hw2⟩
set_option maxRecDepth 100000 in
theorem impl_CheckCertificate (h : SysAt w lo hi A n s) (ht : SysAt w lo2 hi2 C k t) (hp : AutAt w lo1 hi1 B m1 B' m1' p) (ha : AutAt w lo3 hi3 D m2 D' m2' a) (hxs : x.size ≤ 9223372036854775807) (hT : Tab w) :
    Calls Tryz.prog 21 #[.agg #[.int .i64 s.al, .int .i64 s.st, .slice A n c], .agg #[.int .i64 t.al, .int .i64 t.st, .slice C k c2], .agg #[.int .i64 p.al, .slice B m1 d1, .slice B' m1' d1'], .agg #[.bool hd, .int .i64 a.al, .slice D m2 d2, .slice D' m2' d2', .string x]] w fun e w' => e = .returned (.int .i64 (checkZ s t p hd a x)) ∧ Ext w w' := by
  have HT := hide (fun W (hW : Ext w W) => hT.ext hW)
  have HS := hide (fun W (hW : Ext w W) => h.ext hW)
  have HS' := hide (fun W (hW : Ext w W) => ht.ext hW)
  have HB := hide (fun W (hW : Ext w W) => impl_BreaksProperty (d := d1) (d' := d1') (hp.ext hW) hxs)
  have HV := hide (fun W (hW : Ext w W) => impl_SystemValid (c := c) (h.ext hW))
  have HV' := hide (fun W (hW : Ext w W) => impl_SystemValid (c := c2) (ht.ext hW))
  have HP := hide (fun W (hW : Ext w W) => impl_AutomatonValid _ _ _ _ d1 _ _ d1' _ _ (hp.ext hW))
  have HC := hide (fun W (hW : Ext w W) => impl_CertificateValid _ _ _ _ d2 _ _ d2' hd _ x _ (ha.ext hW) hxs)
  have HF := hide (fun W (hW : Ext w W) => impl_AssumptionFault (c := c) (d1 := d1) (d1' := d1') (c2 := c2) (d2 := d2) (d2' := d2') (h.ext hW) (ht.ext hW) (hp.ext hW) (ha.ext hW) (hT.ext hW))
  have hr := hide (show checkZ s t p hd a x = if iface s p t < 0 then 1 else if certValid hd a x = false then 2 else if hd = false then traceZ s t p x
    else if faultA s t p a = 2 then 3 else if faultA s t p a = 3 then 4 else if faultA s t p a = 4 then 5 else 0 from rfl)
  clear h hp ht ha
  have hw1 : Ext w ((((w.alloc (.cells #[.int .i64 s.al, .int .i64 s.st, .slice A n c] 54)).alloc (.cells #[.int .i64 t.al, .int .i64 t.st, .slice C k c2] 54)).alloc (.cells #[.int .i64 p.al, .slice B m1 d1, .slice B' m1' d1'] 35)).alloc (.cells #[.bool hd, .int .i64 a.al, .slice D m2 d2, .slice D' m2' d2', .string x] 57)) := ((((Ext.refl w).alloc _).alloc _).alloc _).alloc _
  obtain ⟨b1, b2, b3, b4⟩ := ext_blk4 (Ext.refl ((((w.alloc (.cells #[.int .i64 s.al, .int .i64 s.st, .slice A n c] 54)).alloc (.cells #[.int .i64 t.al, .int .i64 t.st, .slice C k c2] 54)).alloc (.cells #[.int .i64 p.al, .slice B m1 d1, .slice B' m1' d1'] 35)).alloc (.cells #[.bool hd, .int .i64 a.al, .slice D m2 d2, .slice D' m2' d2', .string x] 57)))
  generalize faultA s t p a = F at *
  cases h1 : sysValid s <;> cases h2 : sysValid t <;> cases h3 : autValid p
  case true.true.true =>
    rw [if_neg (by rw [iface_neg, h1, h2, h3]; decide)] at hr
    rw [h1] at HV
    rw [h2] at HV'
    rw [h3] at HP
    clear h1 h2 h3
    cases hv0 : certValid hd a x
    · rw [hv0, if_pos rfl] at hr
      have hv := hide hv0
      clear hv0
      rw [hv.out] at HC
      go_enter Tryz.func21, Tryz.ntmps21
      go_upto_region 1 with fail
      generalize (((w.alloc (.cells #[.int .i64 s.al, .int .i64 s.st, .slice A n c] 54)).alloc (.cells #[.int .i64 t.al, .int .i64 t.st, .slice C k c2] 54)).alloc (.cells #[.int .i64 p.al, .slice B m1 d1, .slice B' m1' d1'] 35)).alloc (.cells #[.bool hd, .int .i64 a.al, .slice D m2 d2, .slice D' m2' d2', .string x] 57) = w1 at *
      have c1 : ∀ W, Ext w1 W → ∀ j, W.cell? ⟨w.heap.size, j, none⟩ = #[Value.int .i64 s.al, .int .i64 s.st, .slice A n c][j]? := fun W hW => (b1.ext hW).cell
      have c2' : ∀ W, Ext w1 W → ∀ j, W.cell? ⟨w.heap.size + 1, j, none⟩ = #[Value.int .i64 t.al, .int .i64 t.st, .slice C k c2][j]? := fun W hW => (b2.ext hW).cell
      have c3 : ∀ W, Ext w1 W → ∀ j, W.cell? ⟨w.heap.size + 1 + 1, j, none⟩ = #[Value.int .i64 p.al, .slice B m1 d1, .slice B' m1' d1'][j]? := fun W hW => (b3.ext hW).cell
      have c4 : ∀ W, Ext w1 W → ∀ j, W.cell? ⟨w.heap.size + 1 + 1 + 1, j, none⟩ = #[Value.bool hd, .int .i64 a.al, .slice D m2 d2, .slice D' m2' d2', .string x][j]? := fun W hW => (b4.ext hW).cell
      have hx0 := Ext.refl w1
      go_wp2_with (first
        | (go_at_call 44; with_reducible refine (HV.out _ hw1).mono ?_; rintro e w2 ⟨rfl, hx2⟩; have hw2 := hw1.trans hx2)
        | (go_at_call 44; with_reducible refine (HV'.out _ hw2).mono ?_; rintro e w3 ⟨rfl, hx3⟩; have hx13 := hx2.trans hx3; have hw3 := hw1.trans hx13)
        | (go_at_call 33; with_reducible refine (HP.out _ hw3).mono ?_; rintro e w4 ⟨rfl, hx4⟩; have hx14 := hx13.trans hx4; have hw4 := hw1.trans hx14)
        | (go_at_call 45; with_reducible refine (HC.out _ hw4).mono ?_; rintro e w5 ⟨rfl, hx5⟩; have hx15 := hx14.trans hx5; have hw5 := hw1.trans hx15; have e6 := Blk.new w5 54 #[.int .i64 s.al, .int .i64 s.st, .slice A n c, .int .i64 t.al, .int .i64 t.st, .slice C k c2]; have f6 := (Ext.refl w5).alloc (.cells #[.int .i64 s.al, .int .i64 s.st, .slice A n c, .int .i64 t.al, .int .i64 t.st, .slice C k c2] 54); have hx16 := hx15.trans f6; have hw6 := hw1.trans hx16; obtain ⟨l1, l2, hsl⟩ := sl_two e6 (HS.out _ hw6) (HS'.out _ hw6))
        | (go_at_call 46; with_reducible refine (impl_TraceOfParts hsl (HT.out _ hw6) hxs).mono ?_; rw [Ht1.out]; rintro e w7 ⟨rfl, hx7⟩; have hx17 := hx16.trans hx7; have hw7 := hw1.trans hx17)
        | (go_at_call 47; with_reducible refine (HB.out _ hw7).mono ?_; rintro e w8 ⟨rfl, hx8⟩; have hx18 := hx17.trans hx8; have hw8 := hw1.trans hx18)
        | (go_at_call 48; with_reducible refine (HF.out _ hw5).mono ?_; rintro e w9 ⟨rfl, hx9⟩; have hw9 := hw5.trans hx9))
      go_ret
      exact ⟨ret_int (by rw [hr.out]; try rfl), by first | exact hw9 | exact hw8 | exact hw7 | exact hw5 | exact hw4 | exact hw3 | exact hw2⟩
    rw [hv0, if_neg (by decide)] at hr
    have hv := hide hv0
    clear hv0
    rw [hv.out] at HC
    cases hd
    · rw [if_pos rfl] at hr
      have hr2 := hide (show traceZ s t p x = if topB [s, t] x = false then 6 else if breakB p x = false then 7 else 0 from rfl)
      cases ht1 : topB [s, t] x
      · rw [ht1, if_pos rfl] at hr2
        have Ht1 := hide ht1
        clear ht1
        generalize traceZ s t p x = R at *
        go_enter Tryz.func21, Tryz.ntmps21
        go_upto_region 1 with fail
        generalize (((w.alloc (.cells #[.int .i64 s.al, .int .i64 s.st, .slice A n c] 54)).alloc (.cells #[.int .i64 t.al, .int .i64 t.st, .slice C k c2] 54)).alloc (.cells #[.int .i64 p.al, .slice B m1 d1, .slice B' m1' d1'] 35)).alloc (.cells #[.bool false, .int .i64 a.al, .slice D m2 d2, .slice D' m2' d2', .string x] 57) = w1 at *
        have c1 : ∀ W, Ext w1 W → ∀ j, W.cell? ⟨w.heap.size, j, none⟩ = #[Value.int .i64 s.al, .int .i64 s.st, .slice A n c][j]? := fun W hW => (b1.ext hW).cell
        have c2' : ∀ W, Ext w1 W → ∀ j, W.cell? ⟨w.heap.size + 1, j, none⟩ = #[Value.int .i64 t.al, .int .i64 t.st, .slice C k c2][j]? := fun W hW => (b2.ext hW).cell
        have c3 : ∀ W, Ext w1 W → ∀ j, W.cell? ⟨w.heap.size + 1 + 1, j, none⟩ = #[Value.int .i64 p.al, .slice B m1 d1, .slice B' m1' d1'][j]? := fun W hW => (b3.ext hW).cell
        have c4 : ∀ W, Ext w1 W → ∀ j, W.cell? ⟨w.heap.size + 1 + 1 + 1, j, none⟩ = #[Value.bool false, .int .i64 a.al, .slice D m2 d2, .slice D' m2' d2', .string x][j]? := fun W hW => (b4.ext hW).cell
        have hx0 := Ext.refl w1
        go_wp2_with (first
          | (go_at_call 44; with_reducible refine (HV.out _ hw1).mono ?_; rintro e w2 ⟨rfl, hx2⟩; have hw2 := hw1.trans hx2)
          | (go_at_call 44; with_reducible refine (HV'.out _ hw2).mono ?_; rintro e w3 ⟨rfl, hx3⟩; have hx13 := hx2.trans hx3; have hw3 := hw1.trans hx13)
          | (go_at_call 33; with_reducible refine (HP.out _ hw3).mono ?_; rintro e w4 ⟨rfl, hx4⟩; have hx14 := hx13.trans hx4; have hw4 := hw1.trans hx14)
          | (go_at_call 45; with_reducible refine (HC.out _ hw4).mono ?_; rintro e w5 ⟨rfl, hx5⟩; have hx15 := hx14.trans hx5; have hw5 := hw1.trans hx15; have e6 := Blk.new w5 54 #[.int .i64 s.al, .int .i64 s.st, .slice A n c, .int .i64 t.al, .int .i64 t.st, .slice C k c2]; have f6 := (Ext.refl w5).alloc (.cells #[.int .i64 s.al, .int .i64 s.st, .slice A n c, .int .i64 t.al, .int .i64 t.st, .slice C k c2] 54); have hx16 := hx15.trans f6; have hw6 := hw1.trans hx16; obtain ⟨l1, l2, hsl⟩ := sl_two e6 (HS.out _ hw6) (HS'.out _ hw6))
          | (go_at_call 46; with_reducible refine (impl_TraceOfParts hsl (HT.out _ hw6) hxs).mono ?_; rw [Ht1.out]; rintro e w7 ⟨rfl, hx7⟩; have hx17 := hx16.trans hx7; have hw7 := hw1.trans hx17)
          | (go_at_call 47; with_reducible refine (HB.out _ hw7).mono ?_; rintro e w8 ⟨rfl, hx8⟩; have hx18 := hx17.trans hx8; have hw8 := hw1.trans hx18)
          | (go_at_call 48; with_reducible refine (HF.out _ hw5).mono ?_; rintro e w9 ⟨rfl, hx9⟩; have hw9 := hw5.trans hx9))
        go_ret
        exact ⟨ret_int (by rw [hr.out, hr2.out]; try rfl), by first | exact hw9 | exact hw8 | exact hw7 | exact hw5 | exact hw4 | exact hw3 | exact hw2⟩
      rw [ht1, if_neg (by decide)] at hr2
      have Ht1 := hide ht1
      clear ht1
      cases hb1 : breakB p x
      · rw [hb1, if_pos rfl] at hr2
        rw [hb1] at HB
        clear hb1
        generalize traceZ s t p x = R at *
        go_enter Tryz.func21, Tryz.ntmps21
        go_upto_region 1 with fail
        generalize (((w.alloc (.cells #[.int .i64 s.al, .int .i64 s.st, .slice A n c] 54)).alloc (.cells #[.int .i64 t.al, .int .i64 t.st, .slice C k c2] 54)).alloc (.cells #[.int .i64 p.al, .slice B m1 d1, .slice B' m1' d1'] 35)).alloc (.cells #[.bool false, .int .i64 a.al, .slice D m2 d2, .slice D' m2' d2', .string x] 57) = w1 at *
        have c1 : ∀ W, Ext w1 W → ∀ j, W.cell? ⟨w.heap.size, j, none⟩ = #[Value.int .i64 s.al, .int .i64 s.st, .slice A n c][j]? := fun W hW => (b1.ext hW).cell
        have c2' : ∀ W, Ext w1 W → ∀ j, W.cell? ⟨w.heap.size + 1, j, none⟩ = #[Value.int .i64 t.al, .int .i64 t.st, .slice C k c2][j]? := fun W hW => (b2.ext hW).cell
        have c3 : ∀ W, Ext w1 W → ∀ j, W.cell? ⟨w.heap.size + 1 + 1, j, none⟩ = #[Value.int .i64 p.al, .slice B m1 d1, .slice B' m1' d1'][j]? := fun W hW => (b3.ext hW).cell
        have c4 : ∀ W, Ext w1 W → ∀ j, W.cell? ⟨w.heap.size + 1 + 1 + 1, j, none⟩ = #[Value.bool false, .int .i64 a.al, .slice D m2 d2, .slice D' m2' d2', .string x][j]? := fun W hW => (b4.ext hW).cell
        have hx0 := Ext.refl w1
        go_wp2_with (first
          | (go_at_call 44; with_reducible refine (HV.out _ hw1).mono ?_; rintro e w2 ⟨rfl, hx2⟩; have hw2 := hw1.trans hx2)
          | (go_at_call 44; with_reducible refine (HV'.out _ hw2).mono ?_; rintro e w3 ⟨rfl, hx3⟩; have hx13 := hx2.trans hx3; have hw3 := hw1.trans hx13)
          | (go_at_call 33; with_reducible refine (HP.out _ hw3).mono ?_; rintro e w4 ⟨rfl, hx4⟩; have hx14 := hx13.trans hx4; have hw4 := hw1.trans hx14)
          | (go_at_call 45; with_reducible refine (HC.out _ hw4).mono ?_; rintro e w5 ⟨rfl, hx5⟩; have hx15 := hx14.trans hx5; have hw5 := hw1.trans hx15; have e6 := Blk.new w5 54 #[.int .i64 s.al, .int .i64 s.st, .slice A n c, .int .i64 t.al, .int .i64 t.st, .slice C k c2]; have f6 := (Ext.refl w5).alloc (.cells #[.int .i64 s.al, .int .i64 s.st, .slice A n c, .int .i64 t.al, .int .i64 t.st, .slice C k c2] 54); have hx16 := hx15.trans f6; have hw6 := hw1.trans hx16; obtain ⟨l1, l2, hsl⟩ := sl_two e6 (HS.out _ hw6) (HS'.out _ hw6))
          | (go_at_call 46; with_reducible refine (impl_TraceOfParts hsl (HT.out _ hw6) hxs).mono ?_; rw [Ht1.out]; rintro e w7 ⟨rfl, hx7⟩; have hx17 := hx16.trans hx7; have hw7 := hw1.trans hx17)
          | (go_at_call 47; with_reducible refine (HB.out _ hw7).mono ?_; rintro e w8 ⟨rfl, hx8⟩; have hx18 := hx17.trans hx8; have hw8 := hw1.trans hx18)
          | (go_at_call 48; with_reducible refine (HF.out _ hw5).mono ?_; rintro e w9 ⟨rfl, hx9⟩; have hw9 := hw5.trans hx9))
        go_ret
        exact ⟨ret_int (by rw [hr.out, hr2.out]; try rfl), by first | exact hw9 | exact hw8 | exact hw7 | exact hw5 | exact hw4 | exact hw3 | exact hw2⟩
      rw [hb1, if_neg (by decide)] at hr2
      rw [hb1] at HB
      clear hb1
      generalize traceZ s t p x = R at *
      go_enter Tryz.func21, Tryz.ntmps21
      go_upto_region 1 with fail
      generalize (((w.alloc (.cells #[.int .i64 s.al, .int .i64 s.st, .slice A n c] 54)).alloc (.cells #[.int .i64 t.al, .int .i64 t.st, .slice C k c2] 54)).alloc (.cells #[.int .i64 p.al, .slice B m1 d1, .slice B' m1' d1'] 35)).alloc (.cells #[.bool false, .int .i64 a.al, .slice D m2 d2, .slice D' m2' d2', .string x] 57) = w1 at *
      have c1 : ∀ W, Ext w1 W → ∀ j, W.cell? ⟨w.heap.size, j, none⟩ = #[Value.int .i64 s.al, .int .i64 s.st, .slice A n c][j]? := fun W hW => (b1.ext hW).cell
      have c2' : ∀ W, Ext w1 W → ∀ j, W.cell? ⟨w.heap.size + 1, j, none⟩ = #[Value.int .i64 t.al, .int .i64 t.st, .slice C k c2][j]? := fun W hW => (b2.ext hW).cell
      have c3 : ∀ W, Ext w1 W → ∀ j, W.cell? ⟨w.heap.size + 1 + 1, j, none⟩ = #[Value.int .i64 p.al, .slice B m1 d1, .slice B' m1' d1'][j]? := fun W hW => (b3.ext hW).cell
      have c4 : ∀ W, Ext w1 W → ∀ j, W.cell? ⟨w.heap.size + 1 + 1 + 1, j, none⟩ = #[Value.bool false, .int .i64 a.al, .slice D m2 d2, .slice D' m2' d2', .string x][j]? := fun W hW => (b4.ext hW).cell
      have hx0 := Ext.refl w1
      go_wp2_with (first
        | (go_at_call 44; with_reducible refine (HV.out _ hw1).mono ?_; rintro e w2 ⟨rfl, hx2⟩; have hw2 := hw1.trans hx2)
        | (go_at_call 44; with_reducible refine (HV'.out _ hw2).mono ?_; rintro e w3 ⟨rfl, hx3⟩; have hx13 := hx2.trans hx3; have hw3 := hw1.trans hx13)
        | (go_at_call 33; with_reducible refine (HP.out _ hw3).mono ?_; rintro e w4 ⟨rfl, hx4⟩; have hx14 := hx13.trans hx4; have hw4 := hw1.trans hx14)
        | (go_at_call 45; with_reducible refine (HC.out _ hw4).mono ?_; rintro e w5 ⟨rfl, hx5⟩; have hx15 := hx14.trans hx5; have hw5 := hw1.trans hx15; have e6 := Blk.new w5 54 #[.int .i64 s.al, .int .i64 s.st, .slice A n c, .int .i64 t.al, .int .i64 t.st, .slice C k c2]; have f6 := (Ext.refl w5).alloc (.cells #[.int .i64 s.al, .int .i64 s.st, .slice A n c, .int .i64 t.al, .int .i64 t.st, .slice C k c2] 54); have hx16 := hx15.trans f6; have hw6 := hw1.trans hx16; obtain ⟨l1, l2, hsl⟩ := sl_two e6 (HS.out _ hw6) (HS'.out _ hw6))
        | (go_at_call 46; with_reducible refine (impl_TraceOfParts hsl (HT.out _ hw6) hxs).mono ?_; rw [Ht1.out]; rintro e w7 ⟨rfl, hx7⟩; have hx17 := hx16.trans hx7; have hw7 := hw1.trans hx17)
        | (go_at_call 47; with_reducible refine (HB.out _ hw7).mono ?_; rintro e w8 ⟨rfl, hx8⟩; have hx18 := hx17.trans hx8; have hw8 := hw1.trans hx18)
        | (go_at_call 48; with_reducible refine (HF.out _ hw5).mono ?_; rintro e w9 ⟨rfl, hx9⟩; have hw9 := hw5.trans hx9))
      go_ret
      exact ⟨ret_int (by rw [hr.out, hr2.out]; try rfl), by first | exact hw9 | exact hw8 | exact hw7 | exact hw5 | exact hw4 | exact hw3 | exact hw2⟩
    rw [if_neg (by decide)] at hr
    by_cases f2 : F = 2
    · subst f2
      rw [if_pos rfl] at hr
      go_enter Tryz.func21, Tryz.ntmps21
      go_upto_region 1 with fail
      generalize (((w.alloc (.cells #[.int .i64 s.al, .int .i64 s.st, .slice A n c] 54)).alloc (.cells #[.int .i64 t.al, .int .i64 t.st, .slice C k c2] 54)).alloc (.cells #[.int .i64 p.al, .slice B m1 d1, .slice B' m1' d1'] 35)).alloc (.cells #[.bool true, .int .i64 a.al, .slice D m2 d2, .slice D' m2' d2', .string x] 57) = w1 at *
      have c1 : ∀ W, Ext w1 W → ∀ j, W.cell? ⟨w.heap.size, j, none⟩ = #[Value.int .i64 s.al, .int .i64 s.st, .slice A n c][j]? := fun W hW => (b1.ext hW).cell
      have c2' : ∀ W, Ext w1 W → ∀ j, W.cell? ⟨w.heap.size + 1, j, none⟩ = #[Value.int .i64 t.al, .int .i64 t.st, .slice C k c2][j]? := fun W hW => (b2.ext hW).cell
      have c3 : ∀ W, Ext w1 W → ∀ j, W.cell? ⟨w.heap.size + 1 + 1, j, none⟩ = #[Value.int .i64 p.al, .slice B m1 d1, .slice B' m1' d1'][j]? := fun W hW => (b3.ext hW).cell
      have c4 : ∀ W, Ext w1 W → ∀ j, W.cell? ⟨w.heap.size + 1 + 1 + 1, j, none⟩ = #[Value.bool true, .int .i64 a.al, .slice D m2 d2, .slice D' m2' d2', .string x][j]? := fun W hW => (b4.ext hW).cell
      have hx0 := Ext.refl w1
      go_wp2_with (first
        | (go_at_call 44; with_reducible refine (HV.out _ hw1).mono ?_; rintro e w2 ⟨rfl, hx2⟩; have hw2 := hw1.trans hx2)
        | (go_at_call 44; with_reducible refine (HV'.out _ hw2).mono ?_; rintro e w3 ⟨rfl, hx3⟩; have hx13 := hx2.trans hx3; have hw3 := hw1.trans hx13)
        | (go_at_call 33; with_reducible refine (HP.out _ hw3).mono ?_; rintro e w4 ⟨rfl, hx4⟩; have hx14 := hx13.trans hx4; have hw4 := hw1.trans hx14)
        | (go_at_call 45; with_reducible refine (HC.out _ hw4).mono ?_; rintro e w5 ⟨rfl, hx5⟩; have hx15 := hx14.trans hx5; have hw5 := hw1.trans hx15; have e6 := Blk.new w5 54 #[.int .i64 s.al, .int .i64 s.st, .slice A n c, .int .i64 t.al, .int .i64 t.st, .slice C k c2]; have f6 := (Ext.refl w5).alloc (.cells #[.int .i64 s.al, .int .i64 s.st, .slice A n c, .int .i64 t.al, .int .i64 t.st, .slice C k c2] 54); have hx16 := hx15.trans f6; have hw6 := hw1.trans hx16; obtain ⟨l1, l2, hsl⟩ := sl_two e6 (HS.out _ hw6) (HS'.out _ hw6))
        | (go_at_call 46; with_reducible refine (impl_TraceOfParts hsl (HT.out _ hw6) hxs).mono ?_; rw [Ht1.out]; rintro e w7 ⟨rfl, hx7⟩; have hx17 := hx16.trans hx7; have hw7 := hw1.trans hx17)
        | (go_at_call 47; with_reducible refine (HB.out _ hw7).mono ?_; rintro e w8 ⟨rfl, hx8⟩; have hx18 := hx17.trans hx8; have hw8 := hw1.trans hx18)
        | (go_at_call 48; with_reducible refine (HF.out _ hw5).mono ?_; rintro e w9 ⟨rfl, hx9⟩; have hw9 := hw5.trans hx9))
      go_ret
      exact ⟨ret_int (by rw [hr.out]; try rfl), by first | exact hw9 | exact hw8 | exact hw7 | exact hw5 | exact hw4 | exact hw3 | exact hw2⟩
    rw [if_neg f2] at hr
    have g2 : (F == 2) = false := by simpa using f2
    by_cases f3 : F = 3
    · subst f3
      rw [if_pos rfl] at hr
      go_enter Tryz.func21, Tryz.ntmps21
      go_upto_region 1 with fail
      generalize (((w.alloc (.cells #[.int .i64 s.al, .int .i64 s.st, .slice A n c] 54)).alloc (.cells #[.int .i64 t.al, .int .i64 t.st, .slice C k c2] 54)).alloc (.cells #[.int .i64 p.al, .slice B m1 d1, .slice B' m1' d1'] 35)).alloc (.cells #[.bool true, .int .i64 a.al, .slice D m2 d2, .slice D' m2' d2', .string x] 57) = w1 at *
      have c1 : ∀ W, Ext w1 W → ∀ j, W.cell? ⟨w.heap.size, j, none⟩ = #[Value.int .i64 s.al, .int .i64 s.st, .slice A n c][j]? := fun W hW => (b1.ext hW).cell
      have c2' : ∀ W, Ext w1 W → ∀ j, W.cell? ⟨w.heap.size + 1, j, none⟩ = #[Value.int .i64 t.al, .int .i64 t.st, .slice C k c2][j]? := fun W hW => (b2.ext hW).cell
      have c3 : ∀ W, Ext w1 W → ∀ j, W.cell? ⟨w.heap.size + 1 + 1, j, none⟩ = #[Value.int .i64 p.al, .slice B m1 d1, .slice B' m1' d1'][j]? := fun W hW => (b3.ext hW).cell
      have c4 : ∀ W, Ext w1 W → ∀ j, W.cell? ⟨w.heap.size + 1 + 1 + 1, j, none⟩ = #[Value.bool true, .int .i64 a.al, .slice D m2 d2, .slice D' m2' d2', .string x][j]? := fun W hW => (b4.ext hW).cell
      have hx0 := Ext.refl w1
      go_wp2_with (first
        | (go_at_call 44; with_reducible refine (HV.out _ hw1).mono ?_; rintro e w2 ⟨rfl, hx2⟩; have hw2 := hw1.trans hx2)
        | (go_at_call 44; with_reducible refine (HV'.out _ hw2).mono ?_; rintro e w3 ⟨rfl, hx3⟩; have hx13 := hx2.trans hx3; have hw3 := hw1.trans hx13)
        | (go_at_call 33; with_reducible refine (HP.out _ hw3).mono ?_; rintro e w4 ⟨rfl, hx4⟩; have hx14 := hx13.trans hx4; have hw4 := hw1.trans hx14)
        | (go_at_call 45; with_reducible refine (HC.out _ hw4).mono ?_; rintro e w5 ⟨rfl, hx5⟩; have hx15 := hx14.trans hx5; have hw5 := hw1.trans hx15; have e6 := Blk.new w5 54 #[.int .i64 s.al, .int .i64 s.st, .slice A n c, .int .i64 t.al, .int .i64 t.st, .slice C k c2]; have f6 := (Ext.refl w5).alloc (.cells #[.int .i64 s.al, .int .i64 s.st, .slice A n c, .int .i64 t.al, .int .i64 t.st, .slice C k c2] 54); have hx16 := hx15.trans f6; have hw6 := hw1.trans hx16; obtain ⟨l1, l2, hsl⟩ := sl_two e6 (HS.out _ hw6) (HS'.out _ hw6))
        | (go_at_call 46; with_reducible refine (impl_TraceOfParts hsl (HT.out _ hw6) hxs).mono ?_; rw [Ht1.out]; rintro e w7 ⟨rfl, hx7⟩; have hx17 := hx16.trans hx7; have hw7 := hw1.trans hx17)
        | (go_at_call 47; with_reducible refine (HB.out _ hw7).mono ?_; rintro e w8 ⟨rfl, hx8⟩; have hx18 := hx17.trans hx8; have hw8 := hw1.trans hx18)
        | (go_at_call 48; with_reducible refine (HF.out _ hw5).mono ?_; rintro e w9 ⟨rfl, hx9⟩; have hw9 := hw5.trans hx9))
      go_ret
      exact ⟨ret_int (by rw [hr.out]; try rfl), by first | exact hw9 | exact hw8 | exact hw7 | exact hw5 | exact hw4 | exact hw3 | exact hw2⟩
    rw [if_neg f3] at hr
    have g3 : (F == 3) = false := by simpa using f3
    by_cases f4 : F = 4
    · subst f4
      rw [if_pos rfl] at hr
      go_enter Tryz.func21, Tryz.ntmps21
      go_upto_region 1 with fail
      generalize (((w.alloc (.cells #[.int .i64 s.al, .int .i64 s.st, .slice A n c] 54)).alloc (.cells #[.int .i64 t.al, .int .i64 t.st, .slice C k c2] 54)).alloc (.cells #[.int .i64 p.al, .slice B m1 d1, .slice B' m1' d1'] 35)).alloc (.cells #[.bool true, .int .i64 a.al, .slice D m2 d2, .slice D' m2' d2', .string x] 57) = w1 at *
      have c1 : ∀ W, Ext w1 W → ∀ j, W.cell? ⟨w.heap.size, j, none⟩ = #[Value.int .i64 s.al, .int .i64 s.st, .slice A n c][j]? := fun W hW => (b1.ext hW).cell
      have c2' : ∀ W, Ext w1 W → ∀ j, W.cell? ⟨w.heap.size + 1, j, none⟩ = #[Value.int .i64 t.al, .int .i64 t.st, .slice C k c2][j]? := fun W hW => (b2.ext hW).cell
      have c3 : ∀ W, Ext w1 W → ∀ j, W.cell? ⟨w.heap.size + 1 + 1, j, none⟩ = #[Value.int .i64 p.al, .slice B m1 d1, .slice B' m1' d1'][j]? := fun W hW => (b3.ext hW).cell
      have c4 : ∀ W, Ext w1 W → ∀ j, W.cell? ⟨w.heap.size + 1 + 1 + 1, j, none⟩ = #[Value.bool true, .int .i64 a.al, .slice D m2 d2, .slice D' m2' d2', .string x][j]? := fun W hW => (b4.ext hW).cell
      have hx0 := Ext.refl w1
      go_wp2_with (first
        | (go_at_call 44; with_reducible refine (HV.out _ hw1).mono ?_; rintro e w2 ⟨rfl, hx2⟩; have hw2 := hw1.trans hx2)
        | (go_at_call 44; with_reducible refine (HV'.out _ hw2).mono ?_; rintro e w3 ⟨rfl, hx3⟩; have hx13 := hx2.trans hx3; have hw3 := hw1.trans hx13)
        | (go_at_call 33; with_reducible refine (HP.out _ hw3).mono ?_; rintro e w4 ⟨rfl, hx4⟩; have hx14 := hx13.trans hx4; have hw4 := hw1.trans hx14)
        | (go_at_call 45; with_reducible refine (HC.out _ hw4).mono ?_; rintro e w5 ⟨rfl, hx5⟩; have hx15 := hx14.trans hx5; have hw5 := hw1.trans hx15; have e6 := Blk.new w5 54 #[.int .i64 s.al, .int .i64 s.st, .slice A n c, .int .i64 t.al, .int .i64 t.st, .slice C k c2]; have f6 := (Ext.refl w5).alloc (.cells #[.int .i64 s.al, .int .i64 s.st, .slice A n c, .int .i64 t.al, .int .i64 t.st, .slice C k c2] 54); have hx16 := hx15.trans f6; have hw6 := hw1.trans hx16; obtain ⟨l1, l2, hsl⟩ := sl_two e6 (HS.out _ hw6) (HS'.out _ hw6))
        | (go_at_call 46; with_reducible refine (impl_TraceOfParts hsl (HT.out _ hw6) hxs).mono ?_; rw [Ht1.out]; rintro e w7 ⟨rfl, hx7⟩; have hx17 := hx16.trans hx7; have hw7 := hw1.trans hx17)
        | (go_at_call 47; with_reducible refine (HB.out _ hw7).mono ?_; rintro e w8 ⟨rfl, hx8⟩; have hx18 := hx17.trans hx8; have hw8 := hw1.trans hx18)
        | (go_at_call 48; with_reducible refine (HF.out _ hw5).mono ?_; rintro e w9 ⟨rfl, hx9⟩; have hw9 := hw5.trans hx9))
      go_ret
      exact ⟨ret_int (by rw [hr.out]; try rfl), by first | exact hw9 | exact hw8 | exact hw7 | exact hw5 | exact hw4 | exact hw3 | exact hw2⟩
    · rw [if_neg f4] at hr
      have g4 : (F == 4) = false := by simpa using f4
      go_enter Tryz.func21, Tryz.ntmps21
      go_upto_region 1 with fail
      generalize (((w.alloc (.cells #[.int .i64 s.al, .int .i64 s.st, .slice A n c] 54)).alloc (.cells #[.int .i64 t.al, .int .i64 t.st, .slice C k c2] 54)).alloc (.cells #[.int .i64 p.al, .slice B m1 d1, .slice B' m1' d1'] 35)).alloc (.cells #[.bool true, .int .i64 a.al, .slice D m2 d2, .slice D' m2' d2', .string x] 57) = w1 at *
      have c1 : ∀ W, Ext w1 W → ∀ j, W.cell? ⟨w.heap.size, j, none⟩ = #[Value.int .i64 s.al, .int .i64 s.st, .slice A n c][j]? := fun W hW => (b1.ext hW).cell
      have c2' : ∀ W, Ext w1 W → ∀ j, W.cell? ⟨w.heap.size + 1, j, none⟩ = #[Value.int .i64 t.al, .int .i64 t.st, .slice C k c2][j]? := fun W hW => (b2.ext hW).cell
      have c3 : ∀ W, Ext w1 W → ∀ j, W.cell? ⟨w.heap.size + 1 + 1, j, none⟩ = #[Value.int .i64 p.al, .slice B m1 d1, .slice B' m1' d1'][j]? := fun W hW => (b3.ext hW).cell
      have c4 : ∀ W, Ext w1 W → ∀ j, W.cell? ⟨w.heap.size + 1 + 1 + 1, j, none⟩ = #[Value.bool true, .int .i64 a.al, .slice D m2 d2, .slice D' m2' d2', .string x][j]? := fun W hW => (b4.ext hW).cell
      have hx0 := Ext.refl w1
      go_wp2_with (first
        | (go_at_call 44; with_reducible refine (HV.out _ hw1).mono ?_; rintro e w2 ⟨rfl, hx2⟩; have hw2 := hw1.trans hx2)
        | (go_at_call 44; with_reducible refine (HV'.out _ hw2).mono ?_; rintro e w3 ⟨rfl, hx3⟩; have hx13 := hx2.trans hx3; have hw3 := hw1.trans hx13)
        | (go_at_call 33; with_reducible refine (HP.out _ hw3).mono ?_; rintro e w4 ⟨rfl, hx4⟩; have hx14 := hx13.trans hx4; have hw4 := hw1.trans hx14)
        | (go_at_call 45; with_reducible refine (HC.out _ hw4).mono ?_; rintro e w5 ⟨rfl, hx5⟩; have hx15 := hx14.trans hx5; have hw5 := hw1.trans hx15; have e6 := Blk.new w5 54 #[.int .i64 s.al, .int .i64 s.st, .slice A n c, .int .i64 t.al, .int .i64 t.st, .slice C k c2]; have f6 := (Ext.refl w5).alloc (.cells #[.int .i64 s.al, .int .i64 s.st, .slice A n c, .int .i64 t.al, .int .i64 t.st, .slice C k c2] 54); have hx16 := hx15.trans f6; have hw6 := hw1.trans hx16; obtain ⟨l1, l2, hsl⟩ := sl_two e6 (HS.out _ hw6) (HS'.out _ hw6))
        | (go_at_call 46; with_reducible refine (impl_TraceOfParts hsl (HT.out _ hw6) hxs).mono ?_; rw [Ht1.out]; rintro e w7 ⟨rfl, hx7⟩; have hx17 := hx16.trans hx7; have hw7 := hw1.trans hx17)
        | (go_at_call 47; with_reducible refine (HB.out _ hw7).mono ?_; rintro e w8 ⟨rfl, hx8⟩; have hx18 := hx17.trans hx8; have hw8 := hw1.trans hx18)
        | (go_at_call 48; with_reducible refine (HF.out _ hw5).mono ?_; rintro e w9 ⟨rfl, hx9⟩; have hw9 := hw5.trans hx9))
      go_ret
      exact ⟨ret_int (by rw [hr.out]; try rfl), by first | exact hw9 | exact hw8 | exact hw7 | exact hw5 | exact hw4 | exact hw3 | exact hw2⟩
  all_goals
    rw [if_pos (by rw [iface_neg, h1, h2, h3]; rfl)] at hr
    rw [h1] at HV
    rw [h2] at HV'
    rw [h3] at HP
    clear h1 h2 h3
    go_enter Tryz.func21, Tryz.ntmps21
    go_upto_region 1 with fail
    generalize (((w.alloc (.cells #[.int .i64 s.al, .int .i64 s.st, .slice A n c] 54)).alloc (.cells #[.int .i64 t.al, .int .i64 t.st, .slice C k c2] 54)).alloc (.cells #[.int .i64 p.al, .slice B m1 d1, .slice B' m1' d1'] 35)).alloc (.cells #[.bool hd, .int .i64 a.al, .slice D m2 d2, .slice D' m2' d2', .string x] 57) = w1 at *
    have c1 : ∀ W, Ext w1 W → ∀ j, W.cell? ⟨w.heap.size, j, none⟩ = #[Value.int .i64 s.al, .int .i64 s.st, .slice A n c][j]? := fun W hW => (b1.ext hW).cell
    have c2' : ∀ W, Ext w1 W → ∀ j, W.cell? ⟨w.heap.size + 1, j, none⟩ = #[Value.int .i64 t.al, .int .i64 t.st, .slice C k c2][j]? := fun W hW => (b2.ext hW).cell
    have c3 : ∀ W, Ext w1 W → ∀ j, W.cell? ⟨w.heap.size + 1 + 1, j, none⟩ = #[Value.int .i64 p.al, .slice B m1 d1, .slice B' m1' d1'][j]? := fun W hW => (b3.ext hW).cell
    have c4 : ∀ W, Ext w1 W → ∀ j, W.cell? ⟨w.heap.size + 1 + 1 + 1, j, none⟩ = #[Value.bool hd, .int .i64 a.al, .slice D m2 d2, .slice D' m2' d2', .string x][j]? := fun W hW => (b4.ext hW).cell
    have hx0 := Ext.refl w1
    go_wp2_with (first
      | (go_at_call 44; with_reducible refine (HV.out _ hw1).mono ?_; rintro e w2 ⟨rfl, hx2⟩; have hw2 := hw1.trans hx2)
      | (go_at_call 44; with_reducible refine (HV'.out _ hw2).mono ?_; rintro e w3 ⟨rfl, hx3⟩; have hx13 := hx2.trans hx3; have hw3 := hw1.trans hx13)
      | (go_at_call 33; with_reducible refine (HP.out _ hw3).mono ?_; rintro e w4 ⟨rfl, hx4⟩; have hx14 := hx13.trans hx4; have hw4 := hw1.trans hx14)
      | (go_at_call 45; with_reducible refine (HC.out _ hw4).mono ?_; rintro e w5 ⟨rfl, hx5⟩; have hx15 := hx14.trans hx5; have hw5 := hw1.trans hx15; have e6 := Blk.new w5 54 #[.int .i64 s.al, .int .i64 s.st, .slice A n c, .int .i64 t.al, .int .i64 t.st, .slice C k c2]; have f6 := (Ext.refl w5).alloc (.cells #[.int .i64 s.al, .int .i64 s.st, .slice A n c, .int .i64 t.al, .int .i64 t.st, .slice C k c2] 54); have hx16 := hx15.trans f6; have hw6 := hw1.trans hx16; obtain ⟨l1, l2, hsl⟩ := sl_two e6 (HS.out _ hw6) (HS'.out _ hw6))
      | (go_at_call 46; with_reducible refine (impl_TraceOfParts hsl (HT.out _ hw6) hxs).mono ?_; rw [Ht1.out]; rintro e w7 ⟨rfl, hx7⟩; have hx17 := hx16.trans hx7; have hw7 := hw1.trans hx17)
      | (go_at_call 47; with_reducible refine (HB.out _ hw7).mono ?_; rintro e w8 ⟨rfl, hx8⟩; have hx18 := hx17.trans hx8; have hw8 := hw1.trans hx18)
      | (go_at_call 48; with_reducible refine (HF.out _ hw5).mono ?_; rintro e w9 ⟨rfl, hx9⟩; have hw9 := hw5.trans hx9))
    go_ret
    exact ⟨ret_int (by rw [hr.out]; try rfl), by first | exact hw9 | exact hw8 | exact hw7 | exact hw5 | exact hw4 | exact hw3 | exact hw2⟩
end
end Go.Proofs.YtplllipekeomiaaGreatDoor

namespace Go.Proofs.YtplllipekeomiaaGreatDoor
open Go Go.RowKit
set_option maxHeartbeats 2000000

theorem fillA_frm (W : World) (Z : Nat) (u0 u1 u2 : Value) : Frm (fun k => k = Z) W (((W.setCell ⟨Z, 0, none⟩ u0).setCell ⟨Z, 1, none⟩ u1).setCell ⟨Z, 2, none⟩ u2) :=
  ((Frm.setCell W Z 0 u0).trans (Frm.setCell _ Z 1 u1)).trans (Frm.setCell _ Z 2 u2)
theorem fillA_blk {w : World} {Z : Nat} {cs : Array Value} {t : TypeId} (h : Blk w Z t cs) (hc : cs.size = 3) (u0 u1 u2 : Value) : Blk (((w.setCell ⟨Z, 0, none⟩ u0).setCell ⟨Z, 1, none⟩ u1).setCell ⟨Z, 2, none⟩ u2) Z t #[u0, u1, u2] := by
  obtain ⟨l⟩ := cs
  match l, hc with
  | [a, b, c], _ => simpa using ((h.set_ 0 u0).set_ 1 u1).set_ 2 u2
/-- A block of another type is not one's own. -/
theorem own_far {w : World} {base : Nat} {e t : TypeId} {size n G : Nat} {v : Value} {xs : List Value} {cs : Array Value} (h : w.ownsRow base e size v n xs) (hB : Blk w G t cs) (hne : e ≠ t) {b : Nat} (hv : v.ownBlock = some b) : b ≠ G := by
  rintro rfl
  rcases h.2 with ⟨rfl, _⟩ | ⟨g, cap, cur, rfl, _, hh, _⟩
  · simp [Value.ownBlock] at hv
  · have hg : g = b := by simpa [Value.ownBlock] using hv
    subst hg
    unfold Blk at hB
    rw [hh] at hB
    injection hB with hB
    injection hB with _ ht
    exact absurd ht hne
/-- The variable G holds an automaton that grows. -/
structure Gra (w0 W : World) (G : Nat) (al : Int) (v : Value) (ls : List (List Int)) (vA : Value) (acc : List Bool) : Prop where
  blk : Blk W G 35 #[.int .i64 al, v, vA]
  own : OwnLL W w0.heap.size v ls
  acc : W.ownsRow w0.heap.size 4 1 vA acc.length (bools acc)
  ext : Ext w0 W
  hG : w0.heap.size ≤ G
section
variable {w0 W W' : World} {G : Nat} {al : Int} {v vA : Value} {ls : List (List Int)} {acc : List Bool}
theorem Gra.ext_ (h : Gra w0 W G al v ls vA acc) (hb : Ext W W') : Gra w0 W' G al v ls vA acc := ⟨h.blk.ext hb, h.own.ext hb, own_ext h.acc hb, h.ext.trans hb, h.hG⟩
/-- One row more: what 'append' left, and its store into the variable. -/
theorem Gra.push {W1 : World} {rows : List Value} {row : Value} {l : List Int} {g cap : Nat} (h : Gra w0 W G al v ls vA acc) (hrows : RowsOwn W w0.heap.size rows ls) (hv : W.ownsRow w0.heap.size 84 1 v ls.length rows)
    (hx : Ext W W1) (hrow : W1.ownsRow W.heap.size 3 1 row l.length (ints l))
    (hown : W'.ownsRow w0.heap.size 84 1 (.slice (some ⟨g, 0, none⟩) (ls.length + 1) cap) (ls.length + 1) (rows ++ [row]))
    (hg : W1.grownBy W' v.ownBlock) (hat : v.ownBlock = some g ∨ g = W1.heap.size + 1) :
    Hid (W'.cell? ⟨G, 1, none⟩ = some v) ∧ W'.frozen? ⟨G, 1, none⟩ = false ∧ Gra w0 (W'.setCell ⟨G, 1, none⟩ (.slice (some ⟨g, 0, none⟩) (ls.length + 1) cap)) G al (.slice (some ⟨g, 0, none⟩) (ls.length + 1) cap) (ls ++ [l]) vA acc := by
  have hB1 := h.blk.ext hx
  have hv1 := own_ext hv hx
  have hB : Blk W' G 35 #[.int .i64 al, v, vA] := (hg.block G hB1.lt (fun e => own_far hv1 hB1 (by decide) e.symm rfl)).trans hB1
  have hgG : g ≠ G := by
    rcases hat with h1 | h1
    · exact own_far hv1 hB1 (by decide) h1
    · have := hB1.lt; omega
  have hx' : Ext w0 W' := (h.ext.trans hx).grown hg (fun k hk => (hv1.lt k hk).1)
  have hr1 := hrows.snoc hx (h.ext.size) hrow
  have hfr : Frm (fun k => v.ownBlock = some k) W1 W' := Frm.of_grown hg
  have hr2 : RowsOwn W' w0.heap.size (rows ++ [row]) (ls ++ [l]) := hr1.frm hfr (fun i r b hr hb hS => by
    obtain ⟨l', _, ho⟩ := hr1.row hr
    exact own_ne ho hv1 (by decide) hb hS)
  have hacc : W'.ownsRow w0.heap.size 4 1 vA acc.length (bools acc) := own_frm (own_ext h.acc hx) hfr (fun b hb hS => own_ne (own_ext h.acc hx) hv1 (by decide) hb hS)
  have hset := Frm.setCell W' G 1 (.slice (some ⟨g, 0, none⟩) (ls.length + 1) cap)
  refine ⟨hB.cell 1, hB.frozen 1, ⟨by simpa using hB.set_ 1 _, ⟨rows ++ [row], ?_, ?_⟩, ?_, hx'.setCell (p := ⟨G, 1, none⟩) h.hG _, h.hG⟩⟩
  · rw [List.length_append, List.length_singleton]
    exact own_frm hown hset (fun b hv hS => by
      have : g = b := by simpa [Value.ownBlock] using hv
      omega)
  · refine hr2.frm hset (fun i r b hr hb hS => ?_)
    obtain ⟨l', _, ho⟩ := hr2.row hr
    exact own_far ho hB (by decide) hb hS
  · exact own_frm hacc hset (fun b hb hS => own_far hacc hB (by decide) hb hS)
end

end Go.Proofs.YtplllipekeomiaaGreatDoor

namespace Go.Proofs.YtplllipekeomiaaGreatDoor
open Go Go.RowKit
set_option maxHeartbeats 1000000

/-- The marks of the rows. -/
def mk1 (k n : Nat) : List Int := (marks k n).map fun n : Nat => (n : Int)
def mkL (k : Nat) : List (List Int) → List (List Int)
  | [] => []
  | l :: r => mk1 k l.length :: mkL (k + l.length) r
def mkB (k n : Nat) : List Bool := (List.range n).map fun j => (k + j) % 3 == 0
def mkA (k : Nat) (a : Aut) : Aut := ⟨a.al, mkL k a.next, mkB (k + tot a.next) a.acc.length⟩
theorem tot_cons (l : List Int) (r : List (List Int)) : tot (l :: r) = l.length + tot r := by simp [tot]
theorem mk1_length (k n : Nat) : (mk1 k n).length = n := by simp [mk1, marks_length]
theorem mk1_nats (k n : Nat) : nats (marks k n) = ints (mk1 k n) := by simp [mk1, nats, ints]
theorem mkL_length (k : Nat) (ls : List (List Int)) : (mkL k ls).length = ls.length := by
  induction ls generalizing k with
  | nil => rfl
  | cons l r ih => simp [mkL, ih]
theorem mkL_get {k j : Nat} {ls : List (List Int)} {l : List Int} (h : ls[j]? = some l) : (mkL k ls)[j]? = some (mk1 (k + tot (ls.take j)) l.length) := by
  induction ls generalizing k j with
  | nil => simp at h
  | cons a r ih =>
    cases j with
    | zero => simp at h; subst h; simp [mkL, tot]
    | succ j =>
      have := ih (k := k + a.length) (j := j) (by simpa using h)
      rw [mkL, List.getElem?_cons_succ, this, List.take_succ_cons, tot_cons, Nat.add_assoc]
theorem mkL_tot (k : Nat) (ls : List (List Int)) : tot (mkL k ls) = tot ls := by
  induction ls generalizing k with
  | nil => rfl
  | cons a r ih => rw [mkL, tot_cons, tot_cons, ih, mk1_length]
theorem mkB_length (k n : Nat) : (mkB k n).length = n := by simp [mkB]
theorem mkB_get {k n j : Nat} (h : j < n) : (mkB k n)[j]? = some ((k + j) % 3 == 0) := by simp [mkB, h]
theorem mkB_take {k n i : Nat} (h : i ≤ n) : (mkB k n).take i = mkB k i := by
  unfold mkB
  rw [← List.map_take, List.take_range, Nat.min_eq_left h]

/-- A row is written anew. -/
theorem RowsOwn.set_ {w w' : World} {base j : Nat} {rows : List Value} {ls : List (List Int)} {A : Option Addr} {c : Nat} {l : List Int} (h : RowsOwn w base rows ls) (hr : rows[j]? = some (.slice A l.length c))
    (hf : Frm (blk A) w w') (hown : w'.ownsRow base 3 1 (.slice A l.length c) l.length (ints l)) : RowsOwn w' base rows (ls.set j l) := by
  have hj : j < rows.length := (List.getElem?_eq_some_iff.1 hr).1
  refine ⟨by simp [h.1], fun i row m hi hm => ?_, h.2.2⟩
  by_cases hij : i = j
  · subst hij
    rw [hr] at hi
    obtain rfl := Option.some.inj hi
    rw [List.getElem?_set_self (by rw [← h.1]; exact hj)] at hm
    obtain rfl := Option.some.inj hm
    exact hown
  · rw [List.getElem?_set_ne (fun e => hij e.symm)] at hm
    refine own_frm (h.2.1 i row m hi hm) hf (fun b hb hS => ?_)
    obtain ⟨ad, rfl, rfl⟩ := hS
    exact h.2.2 i j row _ ad.block hi hr hij hb rfl
/-- A slice of slices, all in blocks below hi. -/
def OwnLLh (w : World) (base hi : Nat) (v : Value) (ls : List (List Int)) : Prop :=
  ∃ rows, w.ownsRow base 84 1 v ls.length rows ∧ RowsOwn w base rows ls ∧ ∀ (i : Nat) (row : Value) (b : Nat), rows[i]? = some row → row.ownBlock = some b → b < hi
def AutH (w : World) (base hi : Nat) (A : Option Addr) (n c : Nat) (A' : Option Addr) (n' c' : Nat) (a : Aut) : Prop :=
  OwnLLh w base hi (.slice A n c) a.next ∧ (∀ b, (Value.slice A n c).ownBlock = some b → b < hi) ∧ n = a.next.length ∧ w.ownsRow base 4 1 (.slice A' n' c') n' (bools a.acc) ∧ (∀ b, (Value.slice A' n' c').ownBlock = some b → b < hi) ∧ n' = a.acc.length
section
variable {w w' : World} {base hi n c n' c' : Nat} {A A' : Option Addr} {a : Aut}
theorem AutOwn.high (h : AutOwn w base A n c A' n' c' a) : AutH w base w.heap.size A n c A' n' c' a := by
  obtain ⟨⟨rows, h1, h2⟩, h3, h4, h5⟩ := h
  exact ⟨⟨rows, h1, h2, fun i row b hr hb => by
    obtain ⟨l, _, ho⟩ := h2.row hr
    exact (ho.lt b hb).2⟩, fun b hb => (h1.lt b hb).2, h3, h4, fun b hb => (h4.lt b hb).2, h5⟩
theorem AutH.own (h : AutH w base hi A n c A' n' c' a) : AutOwn w base A n c A' n' c' a := by
  obtain ⟨⟨rows, h1, h2, _⟩, _, h3, h4, _, h5⟩ := h
  exact ⟨⟨rows, h1, h2⟩, h3, h4, h5⟩
theorem AutH.frm {S : Nat → Prop} (h : AutH w base hi A n c A' n' c' a) (hb : Frm S w w') (hS : ∀ b, base ≤ b → b < hi → ¬ S b) : AutH w' base hi A n c A' n' c' a := by
  obtain ⟨⟨rows, h1, h2, h6⟩, h7, h3, h4, h8, h5⟩ := h
  exact ⟨⟨rows, own_frm h1 hb (fun b hb => hS b (h1.lt b hb).1 (h7 b hb)), h2.frm hb (fun i row b hr hb => by
    obtain ⟨l, _, ho⟩ := h2.row hr
    exact hS b (ho.lt b hb).1 (h6 i row b hr hb)), h6⟩, h7, h3, own_frm h4 hb (fun b hb => hS b (h4.lt b hb).1 (h8 b hb)), h8, h5⟩
theorem AutH.ext (h : AutH w base hi A n c A' n' c' a) (hb : Ext w w') : AutH w' base hi A n c A' n' c' a := h.frm hb (fun _ _ _ h => h)
end

/-- The blocks of the rows. -/
def rblk (rows : List Value) (b : Nat) : Prop := ∃ (i : Nat) (row : Value), rows[i]? = some row ∧ row.ownBlock = some b
theorem set_mid {α : Type} {l : List α} {j : Nat} {x : α} (hl : j < l.length) : (∀ i, i < j → (l.set j x)[i]? = l[i]?) ∧ (l.set j x)[j]? = some x ∧ ∀ i, j < i → (l.set j x)[i]? = l[i]? :=
  ⟨fun i hi => List.getElem?_set_ne (by omega), List.getElem?_set_self hl, fun i hi => List.getElem?_set_ne (by omega)⟩
theorem mod3 (k j : Nat) : (((k : Int) + (j : Int)) % 3 == 0) = ((k + j) % 3 == 0) := by
  by_cases h : (k + j) % 3 = 0
  · have h2 : ((k : Int) + (j : Int)) % 3 = 0 := by omega
    rw [beq_iff_eq.2 h, beq_iff_eq.2 h2]
  · have h2 : ¬ ((k : Int) + (j : Int)) % 3 = 0 := by omega
    rw [beq_eq_false_iff_ne.2 h, beq_eq_false_iff_ne.2 h2]
/-- How many marks an automaton bears. -/
def cntA (a : Aut) : Nat := tot a.next + a.acc.length
theorem cntA_mk (k : Nat) (a : Aut) : cntA (mkA k a) = cntA a := by simp [cntA, mkA, mkL_tot, mkB_length]
end Go.Proofs.YtplllipekeomiaaGreatDoor

namespace Go.Proofs.YtplllipekeomiaaGreatDoor
open Go Go.RowKit
set_option maxHeartbeats 1000000

/-- A verdict in new memory. -/
def RetVer (w : World) (cd ro : Int) (a : Aut) (s : ByteArray) (e : Ending) (w' : World) : Prop :=
  ∃ A n c A' n' c', e = .returned (.agg #[.int .i64 cd, .int .i64 a.al, .slice A n c, .slice A' n' c', .string s, .int .i64 ro]) ∧ AutOwn w' w.heap.size A n c A' n' c' a ∧ Ext w w'

theorem eqCertificate_same {lo hi lo' hi' : Nat} {A : Option Addr} {n c : Nat} {A' : Option Addr} {n' c' : Nat} {B : Option Addr} {m d : Nat} {B' : Option Addr} {m' d' : Nat} {hd : Bool} {s : ByteArray} {a : Aut} {w : World}
    (h : AutAt w lo hi A n A' n' a) (h' : AutAt w lo' hi' B m B' m' a) :
    Calls Tryz.prog 23 #[.agg #[.bool hd, .int .i64 a.al, .slice A n c, .slice A' n' c', .string s], .agg #[.bool hd, .int .i64 a.al, .slice B m d, .slice B' m' d', .string s]] w fun e w' => e = .returned (.bool true) ∧ Ext w w' := by
  refine (eqCertificate_any _ _ _ _ _ _ _ _ _ _ _ _ _ _ _ _ _ _ _ _ _ _ _ h h').mono ?_
  rintro e w' ⟨rfl, hx⟩
  exact ⟨by simp [certEq, autEq_self], hx⟩
end Go.Proofs.YtplllipekeomiaaGreatDoor

namespace Go.Proofs.YtplllipekeomiaaGreatDoor
open Go Go.RowKit
set_option maxHeartbeats 2000000

section
variable {lo hi : Nat} {A : Option Addr} {n c : Nat} {A' : Option Addr} {n' c' : Nat} {f : Aut} {lo2 hi2 : Nat} {B : Option Addr} {m d : Nat} {B' : Option Addr} {m' d' : Nat} {g : Aut} {w : World}
set_option maxRecDepth 100000 in
theorem szChain_any {left : Int} (h : AutAt w lo hi A n A' n' f) (h' : AutAt w lo2 hi2 B m B' m' g) (h0 : 0 ≤ left) (h1 : left ≤ 1048576) :
    Calls Tryz.prog 7 #[.agg #[.int .i64 f.al, .slice A n c, .slice A' n' c', .int .i64 g.al, .slice B m d, .slice B' m' d'], .int .i64 left] w fun e w' => e = .returned (.int .i64 (leftOf left (f.size + g.size))) ∧ Ext w w' := by
  have hle := leftOf_le left f.size h1
  have Hsz := hide (show leftOf left (f.size + g.size) = if leftOf left f.size < 0 then -1 else leftOf (leftOf left f.size) g.size by unfold leftOf; (repeat' split) <;> omega)
  have HR := hide (fun W (hW : Ext w W) => h.ext hW)
  have HR' := hide (fun W (hW : Ext w W) => h'.ext hW)
  have hw1 : Ext w (w.alloc (.cells #[.int .i64 f.al, .slice A n c, .slice A' n' c', .int .i64 g.al, .slice B m d, .slice B' m' d'] 28)) := (Ext.refl w).alloc _
  have b1 := Blk.new w 28 #[.int .i64 f.al, .slice A n c, .slice A' n' c', .int .i64 g.al, .slice B m d, .slice B' m' d']
  clear h h'
  by_cases hneg : leftOf left f.size < 0
  · go_enter Tryz.func7, Tryz.ntmps7
    go_upto_region 1 with fail
    generalize w.alloc (.cells #[.int .i64 f.al, .slice A n c, .slice A' n' c', .int .i64 g.al, .slice B m d, .slice B' m' d'] 28) = w1 at *
    have c1 := b1.cell
    go_wp2_with (go_at_call 6; refine (szAutomaton_any _ _ _ _ _ _ _ _ _ _ _ (HR.out _ hw1) h0 h1).mono ?_; rintro e w2 ⟨rfl, hx2⟩)
    go_ret
    exact ⟨ret_int (by rw [Hsz.out, if_pos hneg]), hw1.trans hx2⟩
  · have hpos : 0 ≤ leftOf left f.size := by omega
    have hfin := hide (show leftOf left (f.size + g.size) = leftOf (leftOf left f.size) g.size by rw [Hsz.out, if_neg hneg])
    by_cases hneg2 : leftOf (leftOf left f.size) g.size < 0
    all_goals
      go_enter Tryz.func7, Tryz.ntmps7
      go_upto_region 1 with fail
      generalize w.alloc (.cells #[.int .i64 f.al, .slice A n c, .slice A' n' c', .int .i64 g.al, .slice B m d, .slice B' m' d'] 28) = w1 at *
      have c1 := b1.cell
      go_upto_region 4 with (go_at_call 6; refine (szAutomaton_any _ _ _ _ _ _ _ _ _ _ _ (HR.out _ hw1) h0 h1).mono ?_; rintro e w2 ⟨rfl, hx2⟩)
      have c2 := (b1.ext hx2).cell
      have hw2 := hw1.trans hx2
      clear c1
      go_wp2_with (go_at_call 6; refine (szAutomaton_any _ _ _ _ _ _ _ _ _ _ _ (HR'.out _ hw2) hpos hle).mono ?_; rintro e w3 ⟨rfl, hx3⟩)
      go_ret
      exact ⟨ret_int (by first | (rw [hfin.out]; done) | (rw [hfin.out]; unfold leftOf at *; (repeat' split at *) <;> omega)), hw2.trans hx3⟩
/-- A chain in new memory. -/
def RetChn (w : World) (f g : Aut) (e : Ending) (w' : World) : Prop :=
  ∃ A n c A' n' c' B m d B' m' d', e = .returned (.agg #[.int .i64 f.al, .slice A n c, .slice A' n' c', .int .i64 g.al, .slice B m d, .slice B' m' d']) ∧ AutOwn w' w.heap.size A n c A' n' c' f ∧ AutOwn w' w.heap.size B m d B' m' d' g ∧ Ext w w'
set_option maxRecDepth 100000 in
theorem toChain_any (h : AutAt w lo hi A n A' n' f) (h' : AutAt w lo2 hi2 B m B' m' g) (h0 : f.size ≤ 1048576) (h1 : g.size ≤ 1048576) :
    Calls Tryz.prog 11 #[.agg #[.int .i64 f.al, .slice A n c, .slice A' n' c', .int .i64 g.al, .slice B m d, .slice B' m' d']] w (RetChn w f g) := by
  have HR := hide (fun W (hW : Ext w W) => h.ext hW)
  have HR' := hide (fun W (hW : Ext w W) => h'.ext hW)
  clear h h'
  go_enter Tryz.func11, Tryz.ntmps11
  go_upto_region 2 with fail
  have hx3 : Ext w (((w.alloc (.cells #[.int .i64 f.al, .slice A n c, .slice A' n' c', .int .i64 g.al, .slice B m d, .slice B' m' d'] 28)).alloc (.cells #[.int .i64 0, .slice none 0 0, .slice none 0 0, .int .i64 0, .slice none 0 0, .slice none 0 0] 38)).alloc (.cells #[.int .i64 0, .slice none 0 0, .slice none 0 0, .int .i64 0, .slice none 0 0, .slice none 0 0] 38)) := (((Ext.refl w).alloc _).alloc _).alloc _
  obtain ⟨b1, b2, b3⟩ := ext_blk3 (Ext.refl (((w.alloc (.cells #[.int .i64 f.al, .slice A n c, .slice A' n' c', .int .i64 g.al, .slice B m d, .slice B' m' d'] 28)).alloc (.cells #[.int .i64 0, .slice none 0 0, .slice none 0 0, .int .i64 0, .slice none 0 0, .slice none 0 0] 38)).alloc (.cells #[.int .i64 0, .slice none 0 0, .slice none 0 0, .int .i64 0, .slice none 0 0, .slice none 0 0] 38)))
  have hs3 : (((w.alloc (.cells #[.int .i64 f.al, .slice A n c, .slice A' n' c', .int .i64 g.al, .slice B m d, .slice B' m' d'] 28)).alloc (.cells #[.int .i64 0, .slice none 0 0, .slice none 0 0, .int .i64 0, .slice none 0 0, .slice none 0 0] 38)).alloc (.cells #[.int .i64 0, .slice none 0 0, .slice none 0 0, .int .i64 0, .slice none 0 0, .slice none 0 0] 38)).heap.size = w.heap.size + 3 := by simp
  generalize ((w.alloc (.cells #[.int .i64 f.al, .slice A n c, .slice A' n' c', .int .i64 g.al, .slice B m d, .slice B' m' d'] 28)).alloc (.cells #[.int .i64 0, .slice none 0 0, .slice none 0 0, .int .i64 0, .slice none 0 0, .slice none 0 0] 38)).alloc (.cells #[.int .i64 0, .slice none 0 0, .slice none 0 0, .int .i64 0, .slice none 0 0, .slice none 0 0] 38) = w3 at *
  obtain ⟨G, hG⟩ : ∃ G, Hid (w.heap.size = G) := ⟨_, rfl⟩
  rw [hG.out] at b1 b2 b3 hs3
  rw [hG.out]
  have c1 := b1.cell
  go_upto_region 3 with (go_at_call 10; refine (toAutomaton_any _ _ _ _ _ _ _ _ _ _ (HR.out _ hx3) h0).mono ?_; rintro e w4 ⟨D, x, y, D', x', y', rfl, hown4, hx4⟩; have c4 := (b3.ext hx4).cell; have f4 := (b3.ext hx4).frozen)
  have b14 := b1.ext hx4
  have b24 := b2.ext hx4
  have b34 := b3.ext hx4
  have hw4 := hx3.trans hx4
  have hfr4 := ((Frm.setCell w4 (G + 1 + 1) 0 (.int .i64 f.al)).trans (Frm.setCell _ (G + 1 + 1) 1 (.slice D x y))).trans (Frm.setCell _ (G + 1 + 1) 2 (.slice D' x' y'))
  have b35 : Blk (((w4.setCell ⟨G + 1 + 1, 0, none⟩ (.int .i64 f.al)).setCell ⟨G + 1 + 1, 1, none⟩ (.slice D x y)).setCell ⟨G + 1 + 1, 2, none⟩ (.slice D' x' y')) (G + 1 + 1) 38 #[.int .i64 f.al, .slice D x y, .slice D' x' y', .int .i64 0, .slice none 0 0, .slice none 0 0] := by simpa using ((b34.set_ 0 (.int .i64 f.al)).set_ 1 (.slice D x y)).set_ 2 (.slice D' x' y')
  have b15 := b14.frm hfr4 (by omega)
  have b25 := b24.frm hfr4 (by omega)
  rw [hs3] at hown4
  have hown5 := hown4.keep hfr4 (fun b hb e => by omega)
  have hw5 := hw4.frm hfr4 (fun k hk e => by have := hG.out; omega)
  clear b14 b24 b34 hfr4 hown4 hw4 c1 c4 f4 b1 b2 b3 hx4
  generalize ((w4.setCell ⟨G + 1 + 1, 0, none⟩ (.int .i64 f.al)).setCell ⟨G + 1 + 1, 1, none⟩ (.slice D x y)).setCell ⟨G + 1 + 1, 2, none⟩ (.slice D' x' y') = w5 at *
  have c5 := b15.cell
  go_upto_region 4 with (go_at_call 10; refine (toAutomaton_any _ _ _ _ _ _ _ _ _ _ (HR'.out _ hw5) h1).mono ?_; rintro e w6 ⟨E, u, v, E', u', v', rfl, hown6, hx6⟩; have c6 := (b35.ext hx6).cell; have f6 := (b35.ext hx6).frozen)
  have b26 := b25.ext hx6
  have b36 := b35.ext hx6
  have hown56 := hown5.ext hx6
  have hw6 := hw5.trans hx6
  have hs5 := hw5.size
  have hg5 := b35.lt
  have hfr6 := ((Frm.setCell w6 (G + 1 + 1) 3 (.int .i64 g.al)).trans (Frm.setCell _ (G + 1 + 1) 4 (.slice E u v))).trans (Frm.setCell _ (G + 1 + 1) 5 (.slice E' u' v'))
  have b37 : Blk (((w6.setCell ⟨G + 1 + 1, 3, none⟩ (.int .i64 g.al)).setCell ⟨G + 1 + 1, 4, none⟩ (.slice E u v)).setCell ⟨G + 1 + 1, 5, none⟩ (.slice E' u' v')) (G + 1 + 1) 38 #[.int .i64 f.al, .slice D x y, .slice D' x' y', .int .i64 g.al, .slice E u v, .slice E' u' v'] := by simpa using ((b36.set_ 3 (.int .i64 g.al)).set_ 4 (.slice E u v)).set_ 5 (.slice E' u' v')
  have b27 := b26.frm hfr6 (by omega)
  have hown7 := hown6.keep hfr6 (fun b hb e => by omega)
  have hown57 := hown56.keep hfr6 (fun b hb e => by omega)
  have hw7 := hw6.frm hfr6 (fun k hk e => by have := hG.out; omega)
  have hg5' : G + 3 ≤ w5.heap.size := by omega
  clear b26 b36 hfr6 hown6 hown56 hw6 c5 c6 f6 hx6 hown5 b15 b25 b35
  generalize ((w6.setCell ⟨G + 1 + 1, 3, none⟩ (.int .i64 g.al)).setCell ⟨G + 1 + 1, 4, none⟩ (.slice E u v)).setCell ⟨G + 1 + 1, 5, none⟩ (.slice E' u' v') = w7 at *
  have c7 := b37.cell
  have d7 := b27.cell
  have f7 := b27.frozen
  have hfr8 := (((((Frm.setCell w7 (G + 1) 0 (.int .i64 f.al)).trans (Frm.setCell _ (G + 1) 1 (.slice D x y))).trans (Frm.setCell _ (G + 1) 2 (.slice D' x' y'))).trans (Frm.setCell _ (G + 1) 3 (.int .i64 g.al))).trans (Frm.setCell _ (G + 1) 4 (.slice E u v))).trans (Frm.setCell _ (G + 1) 5 (.slice E' u' v'))
  have b28 : Blk ((((((w7.setCell ⟨G + 1, 0, none⟩ (.int .i64 f.al)).setCell ⟨G + 1, 1, none⟩ (.slice D x y)).setCell ⟨G + 1, 2, none⟩ (.slice D' x' y')).setCell ⟨G + 1, 3, none⟩ (.int .i64 g.al)).setCell ⟨G + 1, 4, none⟩ (.slice E u v)).setCell ⟨G + 1, 5, none⟩ (.slice E' u' v')) (G + 1) 38 #[.int .i64 f.al, .slice D x y, .slice D' x' y', .int .i64 g.al, .slice E u v, .slice E' u' v'] := by simpa using (((((b27.set_ 0 (.int .i64 f.al)).set_ 1 (.slice D x y)).set_ 2 (.slice D' x' y')).set_ 3 (.int .i64 g.al)).set_ 4 (.slice E u v)).set_ 5 (.slice E' u' v')
  have hres := hide (show RetChn w f g (.returned (.agg #[.int .i64 f.al, .slice D x y, .slice D' x' y', .int .i64 g.al, .slice E u v, .slice E' u' v'])) ((((((w7.setCell ⟨G + 1, 0, none⟩ (.int .i64 f.al)).setCell ⟨G + 1, 1, none⟩ (.slice D x y)).setCell ⟨G + 1, 2, none⟩ (.slice D' x' y')).setCell ⟨G + 1, 3, none⟩ (.int .i64 g.al)).setCell ⟨G + 1, 4, none⟩ (.slice E u v)).setCell ⟨G + 1, 5, none⟩ (.slice E' u' v')) from
    ⟨_, _, _, _, _, _, _, _, _, _, _, _, rfl, (hown57.keep hfr8 (fun b hb e => by omega)).less (by have := hG.out; omega), (hown7.keep hfr8 (fun b hb e => by omega)).less (by have := hG.out; omega), hw7.frm hfr8 (fun k hk e => by have := hG.out; omega)⟩)
  go_wp2_with fail
  generalize (((((w7.setCell ⟨G + 1, 0, none⟩ (.int .i64 f.al)).setCell ⟨G + 1, 1, none⟩ (.slice D x y)).setCell ⟨G + 1, 2, none⟩ (.slice D' x' y')).setCell ⟨G + 1, 3, none⟩ (.int .i64 g.al)).setCell ⟨G + 1, 4, none⟩ (.slice E u v)).setCell ⟨G + 1, 5, none⟩ (.slice E' u' v') = w8 at *
  have c8 := b28.cell
  exact bodyPost_ret (v := .agg #[.int .i64 f.al, .slice D x y, .slice D' x' y', .int .i64 g.al, .slice E u v, .slice E' u' v']) (by simp [results, Tryz.results11, go_sem, c8]) rfl hres.out
set_option maxRecDepth 100000 in
theorem eqChain_same {lo3 hi3 : Nat} {C : Option Addr} {k e_ : Nat} {C' : Option Addr} {k' e' : Nat} {lo4 hi4 : Nat} {D : Option Addr} {l i : Nat} {D' : Option Addr} {l' i' : Nat} (h : AutAt w lo hi A n A' n' f) (h' : AutAt w lo2 hi2 B m B' m' g) (h3 : AutAt w lo3 hi3 C k C' k' f) (h4 : AutAt w lo4 hi4 D l D' l' g) :
    Calls Tryz.prog 15 #[.agg #[.int .i64 f.al, .slice A n c, .slice A' n' c', .int .i64 g.al, .slice B m d, .slice B' m' d'], .agg #[.int .i64 f.al, .slice C k e_, .slice C' k' e', .int .i64 g.al, .slice D l i, .slice D' l' i']] w fun e w' => e = .returned (.bool true) ∧ Ext w w' := by
  have HR := hide (fun W (hW : Ext w W) => h.ext hW)
  have HR' := hide (fun W (hW : Ext w W) => h'.ext hW)
  have HS := hide (fun W (hW : Ext w W) => h3.ext hW)
  have HS' := hide (fun W (hW : Ext w W) => h4.ext hW)
  have e1 := hide (autEq_self f)
  have e2 := hide (autEq_self g)
  clear h h' h3 h4
  go_enter Tryz.func15, Tryz.ntmps15
  go_upto_region 1 with fail
  have hw1 : Ext w ((w.alloc (.cells #[.int .i64 f.al, .slice A n c, .slice A' n' c', .int .i64 g.al, .slice B m d, .slice B' m' d'] 38)).alloc (.cells #[.int .i64 f.al, .slice C k e_, .slice C' k' e', .int .i64 g.al, .slice D l i, .slice D' l' i'] 38)) := ((Ext.refl w).alloc _).alloc _
  obtain ⟨b1, b2⟩ := ext_blk2 (Ext.refl ((w.alloc (.cells #[.int .i64 f.al, .slice A n c, .slice A' n' c', .int .i64 g.al, .slice B m d, .slice B' m' d'] 38)).alloc (.cells #[.int .i64 f.al, .slice C k e_, .slice C' k' e', .int .i64 g.al, .slice D l i, .slice D' l' i'] 38)))
  generalize (w.alloc (.cells #[.int .i64 f.al, .slice A n c, .slice A' n' c', .int .i64 g.al, .slice B m d, .slice B' m' d'] 38)).alloc (.cells #[.int .i64 f.al, .slice C k e_, .slice C' k' e', .int .i64 g.al, .slice D l i, .slice D' l' i'] 38) = w1 at *
  have c1 := b1.cell
  have c2 := b2.cell
  go_upto_region 3 with (go_at_call 14; refine (eqAutomaton_any _ _ _ _ _ _ _ _ _ _ _ _ _ _ _ _ _ _ _ (HR.out _ hw1) (HS.out _ hw1)).mono ?_; rw [e1.out]; rintro e w2 ⟨rfl, hx2⟩)
  have c3 := (b1.ext hx2).cell
  have c4 := (b2.ext hx2).cell
  have hw2 := hw1.trans hx2
  clear c1 c2
  go_wp2_with (go_at_call 14; refine (eqAutomaton_any _ _ _ _ _ _ _ _ _ _ _ _ _ _ _ _ _ _ _ (HR'.out _ hw2) (HS'.out _ hw2)).mono ?_; rw [e2.out]; rintro e w3 ⟨rfl, hx3⟩)
  go_ret
  exact ⟨ret_bool rfl, hw2.trans hx3⟩
end
end Go.Proofs.YtplllipekeomiaaGreatDoor
