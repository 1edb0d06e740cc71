/- impl.firstBroken, walked. -/
import Derived.Test.YtplllipekeomiaaGreatDoorG15
import Derived.Test.YtplllipekeomiaaGreatDoorG10
import Derived.Test.YtplllipekeomiaaGreatDoorG13
namespace Go.Proofs.YtplllipekeomiaaGreatDoor
open Go Go.RowKit
set_option maxHeartbeats 8000000

/-- Under the assumption and outside the property. -/
def brkG (a p : Aut) (x : Nat) : Bool := accB a (x / p.next.length % a.next.length) && !accB p (x % p.next.length)
set_option maxRecDepth 100000 in
theorem impl_firstBroken {lo hi k c ga : Nat} {A : Option Addr} {ss : List Sys} {B : Option Addr} {m1 d1 : Nat} {B' : Option Addr} {m1' d1' lo1 hi1 : Nat} {C : Option Addr} {m2 d2 : Nat} {C' : Option Addr} {m2' d2' lo2 hi2 : Nat} {a p : Aut} {w : World}
    (h : SLAt w lo hi A k ss) (hap : areParts ss = true) (hT : Tab w) (hga : Blk w ga 35 #[.int .i64 a.al, .slice B m1 d1, .slice B' m1' d1']) (hA0 : AutAt w lo1 hi1 B m1 B' m1' a) (hv : autValid a = true) (hP0 : AutAt w lo2 hi2 C m2 C' m2' p) (hp : autValid p = true) :
    Calls Tryz.prog 88 #[.slice A k c, .pointer (some ⟨ga, 0, none⟩), .agg #[.int .i64 p.al, .slice C m2 d2, .slice C' m2' d2']] w (RetPath w (brkD ss a p) [0] (brkG a p) (letters (unionA ss ||| a.al.toNat) 6)) := by
  have hsv : ∀ s ∈ ss, sysValid s = true := by
    unfold areParts at hap
    simp only [Bool.and_eq_true, List.all_eq_true] at hap
    exact hap.2.2
  have hk3 : k ≤ 3 := by
    unfold areParts at hap
    simp only [Bool.and_eq_true, decide_eq_true_eq] at hap
    have := h.1
    omega
  have hsl := hide (fun (s : Sys) (hs : s ∈ ss) => sml_of (hsv s hs))
  have hf16 := hide (fun (s : Sys) (hs : s ∈ ss) => show Few 16 s.edges from by
    obtain ⟨q, _, _, hq, hf⟩ := valid_few (hsv s hs)
    exact fun e he => by have := hf e he; omega)
  have hU : unionA ss ≤ 63 := by
    have key : ∀ l : List Sys, (∀ s ∈ l, sysValid s = true) → unionA l ≤ 63 := by
      intro l hl
      have : ∀ n, unionA (l.take n) ≤ 63 := by
        intro n
        induction n with
        | zero => simp [unionA]
        | succ n ih =>
          rcases Nat.lt_or_ge n l.length with h1 | h1
          · rw [unionA_succ (List.getElem?_eq_getElem h1)]
            have := sysValid_al (hl _ (List.getElem_mem h1))
            have := Nat.or_lt_two_pow (n := 6) (x := unionA (l.take n)) (y := l[n].al.toNat) (by omega) (by omega)
            omega
          · rw [List.take_of_length_le (by omega)]
            rw [List.take_of_length_le h1] at ih
            exact ih
      have h2 := this l.length
      rwa [List.take_length] at h2
    exact key ss hsv
  have hal := (autValid_row hv).1
  obtain ⟨al, hale⟩ : ∃ al : Nat, Hid (a.al = al) := ⟨a.al.toNat, by unfold Hid; omega⟩
  have hal6 : al ≤ 63 := by have := hale.out; omega
  have hpa := hide (show partsA ss = (unionA ss : Int) by unfold partsA; rw [hap]; rfl)
  have hap3 := hide (show a.al.toNat = al by have := hale.out; omega)
  have hpal := hide (show 0 ≤ p.al ∧ p.al ≤ 63 from (autValid_row hp).1)
  rw [hap3.out]
  have HS := hide (fun W (hW : Ext w W) => h.ext hW)
  have HT := hide (fun W (hW : Ext w W) => hT.ext hW)
  have HA := hide (fun W (hW : Ext w W) => hA0.ext hW)
  have HP := hide (fun W (hW : Ext w W) => hP0.ext hW)
  have HGA := hide (fun W (hW : Ext w W) => hga.ext hW)
  have Hv := hide hv
  have Hp := hide hp
  generalize hUe : unionA ss = U at *
  have HU := hide hUe
  clear hUe h hT hA0 hP0 hga hv hp hap hsv hal
  go_enter Tryz.func88, Tryz.ntmps88
  go_upto_region 1 with fail
  have hw2 : Ext w ((w.alloc (.cells #[.pointer (some ⟨ga, 0, none⟩)] 114)).alloc (.cells #[.int .i64 p.al, .slice C m2 d2, .slice C' m2' d2'] 35)) := ((Ext.refl w).alloc _).alloc _
  obtain ⟨b4, b5⟩ := ext_blk2 (Ext.refl ((w.alloc (.cells #[.pointer (some ⟨ga, 0, none⟩)] 114)).alloc (.cells #[.int .i64 p.al, .slice C m2 d2, .slice C' m2' d2'] 35)))
  generalize (w.alloc (.cells #[.pointer (some ⟨ga, 0, none⟩)] 114)).alloc (.cells #[.int .i64 p.al, .slice C m2 d2, .slice C' m2' d2'] 35) = w2 at *
  go_upto_region 2 with (go_at_call 111; refine (impl_newParts (HS.out _ hw2) hf16.out (by omega)).mono ?_; rintro e w3 ⟨M, dm, rfl, hpt, hx3⟩)
  have hw3 := hw2.trans hx3
  have b8 := Blk.new w3 136 #[.slice A k c, .slice M k dm]
  have hx4 := hx3.alloc (.cells #[.slice A k c, .slice M k dm] 136)
  have hpt4 := hpt.ext ((Ext.refl w3).alloc (.cells #[.slice A k c, .slice M k dm] 136))
  generalize hg8 : w3.heap.size = g8 at *
  clear hpt hg8
  generalize w3.alloc (.cells #[.slice A k c, .slice M k dm] 136) = w4 at *
  have hw4 := hw2.trans hx4
  clear hw3 hx3
  go_upto_region 3 with (go_at_call 76; refine (impl_PartsAlphabet (HS.out _ hw4)).mono ?_; rw [hpa.out]; rintro e w5 ⟨rfl, hx5⟩)
  have b45 := b4.ext (hx4.trans hx5)
  have b55 := b5.ext (hx4.trans hx5)
  have b85 := b8.ext hx5
  have hpt5 := hpt4.ext hx5
  have hw5 := hw4.trans hx5
  have k4 := b45.cell 0
  clear hx4 hx5 b4 b5 b8 hpt4 hw2 hw4
  go_upto_region 5 with fail
  clear k4
  have hB4 := hide (fun W (hW : Ext w5 W) => b45.ext hW)
  have hB5 := hide (fun W (hW : Ext w5 W) => b55.ext hW)
  have hB8 := hide (fun W (hW : Ext w5 W) => b85.ext hW)
  have hPT := hide (fun W (hW : Ext w5 W) => hpt5.ext hW)
  clear b45 b55 b85 hpt5
  have HGA5 := hide (fun W (hW : Ext w5 W) => HGA.out W (hw5.trans hW))
  have HA5 := hide (fun W (hW : Ext w5 W) => HA.out W (hw5.trans hW))
  clear HGA HA
  go_cut [10, 11] (fun v10 v11 wx => ∃ (g10 g11 : Nat) (UA RA : Option Addr) (uc rc : Nat), v10 = .pointer (some ⟨g10, 0, none⟩) ∧ v11 = .pointer (some ⟨g11, 0, none⟩) ∧ Ext w5 wx ∧ Blk wx g10 138 #[.slice UA a.next.length uc] ∧ Blk wx g11 138 #[.slice RA p.next.length rc] ∧ TbO wx UA uc a ∧ TbO wx RA rc p)
  case first =>
    have c4 : ∀ W, Ext w5 W → W.cell? ⟨w.heap.size, 0, none⟩ = some (.pointer (some ⟨ga, 0, none⟩)) := fun W hW => by rw [(hB4.out W hW).cell]; rfl
    have ca : ∀ W, Ext w5 W → ∀ j, W.cell? ⟨ga, j, none⟩ = #[Value.int .i64 a.al, .slice B m1 d1, .slice B' m1' d1'][j]? := fun W hW => (HGA5.out W hW).cell
    have c5 : ∀ W, Ext w5 W → ∀ j, W.cell? ⟨w.heap.size + 1, j, none⟩ = #[Value.int .i64 p.al, .slice C m2 d2, .slice C' m2' d2'][j]? := fun W hW => (hB5.out W hW).cell
    have hTA := hide (fun W (hW : Ext w5 W) => impl_tableOf (d := d1) (d' := d1') (HA5.out W hW) Hv.out)
    have hTP := hide (fun W (hW : Ext w5 W) => impl_tableOf (d := d2) (d' := d2') (HP.out W (hw5.trans hW)) Hp.out)
    have hww := Ext.refl w5
    refine wp_region_tailU (fun X => Ext w5 X) [5, 8, 9] (OrdU.app [0, 4] (OrdU.three 1 (OrdU.app [2] (OrdU.three 3 (OrdU.three 5 (OrdU.two 6 (OrdU.of [7, 8, 9]) 7 (OrdU.of [6, 8, 9])) 6 (OrdU.two 5 (OrdU.of [7, 8, 9]) 7 (OrdU.of [5, 8, 9])) 7 (OrdU.two 5 (OrdU.of [6, 8, 9]) 6 (OrdU.of [5, 8, 9]))) 6 (OrdU.two 3 (OrdU.two 5 (OrdU.of [7, 8, 9]) 7 (OrdU.of [5, 8, 9])) 7 (OrdU.of [3, 5, 8, 9])) 7 (OrdU.two 3 (OrdU.two 5 (OrdU.of [6, 8, 9]) 6 (OrdU.of [5, 8, 9])) 6 (OrdU.of [3, 5, 8, 9])))) 6 (OrdU.two 1 (OrdU.app [2] (OrdU.two 3 (OrdU.two 5 (OrdU.of [7, 8, 9]) 7 (OrdU.of [5, 8, 9])) 7 (OrdU.of [3, 5, 8, 9]))) 7 (OrdU.of [1, 2, 3, 5, 8, 9])) 7 (OrdU.two 1 (OrdU.app [2] (OrdU.two 3 (OrdU.two 5 (OrdU.of [6, 8, 9]) 6 (OrdU.of [5, 8, 9])) 6 (OrdU.of [3, 5, 8, 9]))) 6 (OrdU.of [1, 2, 3, 5, 8, 9])))) (by kernel_rfl) (by kernel_rfl) (by kernel_rfl) (by kernel_rfl) (by kernel_rfl) (fun _ _ _ _ _ h => h) (by first | assumption | exact (Ext.refl _).drew | (refine Ext.drew ?_; assumption)) ?_
    repeat (first | (refine useq_skip rfl rfl (by assumption) ?_; simp only [Act.put, List.setIfInBounds_toArray, List.set_cons_zero, List.set_cons_succ]) | (refine useq_pure (v := ?_) rfl rfl rfl rfl (fun X => ?_) ?_; rotate_left; (focus (go_simp <;> with_reducible rfl)); simp only [Act.put, List.setIfInBounds_toArray, List.set_cons_zero, List.set_cons_succ]) | (refine useq_read (v := ?_) rfl rfl rfl rfl (fun X hX => ?_) ?_; rotate_left; (focus (go_simp <;> with_reducible rfl)); simp only [Act.put, List.setIfInBounds_toArray, List.set_cons_zero, List.set_cons_succ]))
    have hx0 : Ext w5 w5.drew := hww.drew
    generalize w5.drew = wd at *
    repeat (first | (refine useq_skip rfl rfl (by assumption) ?_; simp only [Act.put, List.setIfInBounds_toArray, List.set_cons_zero, List.set_cons_succ]) | (refine useq_pure (v := ?_) rfl rfl rfl rfl (fun X => ?_) ?_; rotate_left; (focus (go_simp <;> with_reducible rfl)); simp only [Act.put, List.setIfInBounds_toArray, List.set_cons_zero, List.set_cons_succ]) | (refine useq_read (v := ?_) rfl rfl rfl rfl (fun X hX => ?_) ?_; rotate_left; (focus (go_simp <;> with_reducible rfl)); simp only [Act.put, List.setIfInBounds_toArray, List.set_cons_zero, List.set_cons_succ]))
    refine useq_three rfl rfl rfl rfl rfl rfl (fun K hK => ?_) (fun K hK => ?_) (fun K hK => ?_)
    · go_simp
      refine hK.out _ _ hx0 ?_
      (try simp only [Act.put, List.setIfInBounds_toArray, List.set_cons_zero, List.set_cons_succ])
      repeat (first | (refine useq_skip rfl rfl (by assumption) ?_; simp only [Act.put, List.setIfInBounds_toArray, List.set_cons_zero, List.set_cons_succ]) | (refine useq_pure (v := ?_) rfl rfl rfl rfl (fun X => ?_) ?_; rotate_left; (focus (go_simp <;> with_reducible rfl)); simp only [Act.put, List.setIfInBounds_toArray, List.set_cons_zero, List.set_cons_succ]) | (refine useq_read (v := ?_) rfl rfl rfl rfl (fun X hX => ?_) ?_; rotate_left; (focus (go_simp <;> with_reducible rfl)); simp only [Act.put, List.setIfInBounds_toArray, List.set_cons_zero, List.set_cons_succ]))
      refine useq_three rfl rfl rfl rfl rfl rfl (fun K hK => ?_) (fun K hK => ?_) (fun K hK => ?_)
      · go_simp
        refine (hTA.out _ hx0).mono ?_
        rintro e w20 ⟨UA, uc, rfl, hA, hx1⟩
        replace hx0 := hx0.trans hx1
        clear hx1
        refine hK.out _ _ hx0 ?_
        (try simp only [Act.put, List.setIfInBounds_toArray, List.set_cons_zero, List.set_cons_succ])
        refine useq_three rfl rfl rfl rfl rfl rfl (fun K hK => ?_) (fun K hK => ?_) (fun K hK => ?_)
        · go_simp
          refine (hTP.out _ hx0).mono ?_
          rintro e w21 ⟨RA, rc, rfl, hP, hx1⟩
          replace hx0 := hx0.trans hx1
          replace hA := hA.ext hx1
          clear hx1
          refine hK.out _ _ hx0 ?_
          (try simp only [Act.put, List.setIfInBounds_toArray, List.set_cons_zero, List.set_cons_succ])
          refine useq_both rfl rfl rfl rfl (fun K hK => ?_) (fun K hK => ?_)
          · go_simp
            have hGh10 := hx0.size
            have hx1 := (Ext.refl w21).alloc (.cells #[.slice none 0 0] 138)
            replace hx0 := hx0.trans hx1
            replace hA := hA.ext hx1
            replace hP := hP.ext hx1
            clear hx1
            have h10 := Blk.new w21 138 #[.slice none 0 0]
            refine hK.out _ _ hx0 ?_
            (try simp only [Act.put, List.setIfInBounds_toArray, List.set_cons_zero, List.set_cons_succ])
            generalize w21.alloc (.cells #[.slice none 0 0] 138) = w22 at *
            generalize w21.heap.size = g10 at *
            (refine useq_step rfl rfl rfl (fun K hK => ?_); go_simp)
            have hne := Nat.ne_of_lt h10.lt
            have hGh11 := hx0.size
            have hx1 := (Ext.refl w22).alloc (.cells #[.slice none 0 0] 138)
            replace hx0 := hx0.trans hx1
            replace h10 := h10.ext hx1
            replace hA := hA.ext hx1
            replace hP := hP.ext hx1
            clear hx1
            have h11 := Blk.new w22 138 #[.slice none 0 0]
            refine hK.out _ _ hx0 ?_
            (try simp only [Act.put, List.setIfInBounds_toArray, List.set_cons_zero, List.set_cons_succ])
            generalize w22.alloc (.cells #[.slice none 0 0] 138) = w23 at *
            generalize w22.heap.size = g11 at *
            have Kh10 := h10.cell 0
            have Zh10 := h10.frozen 0
            (refine useq_last rfl rfl rfl rfl (fun K hK => ?_))
            go_simp
            have hx2 := hx0.frm (Frm.setCell w23 g10 0 (.slice UA a.next.length uc)) (fun k hk e => by have := hGh10; omega)
            have hA2 := hA.set h10 (by decide) (.slice UA a.next.length uc)
            have hP2 := hP.set h10 (by decide) (.slice UA a.next.length uc)
            have h102 : Blk (w23.setCell ⟨g10, 0, none⟩ (.slice UA a.next.length uc)) g10 138 #[.slice UA a.next.length uc] := by simpa using h10.set_ 0 (.slice UA a.next.length uc)
            have h112 := h11.far (p := ⟨g10, 0, none⟩) (by first | exact hne | exact hne.symm) (.slice UA a.next.length uc)
            refine hK.out _ _ ?_
            (try simp only [Act.put, List.setIfInBounds_toArray, List.set_cons_zero, List.set_cons_succ])
            clear hA hP h10 h11 Kh10 Zh10 hx0
            generalize w23.setCell ⟨g10, 0, none⟩ (.slice UA a.next.length uc) = w24 at *
            have hA := hA2; have hP := hP2; have h10 := h102; have h11 := h112; have hx0 := hx2
            clear hA2 hP2 h102 h112 hx2
            have Kh11 := h11.cell 0
            have Zh11 := h11.frozen 0
            (refine useq_last rfl rfl rfl rfl (fun K hK => ?_))
            go_simp
            have hx2 := hx0.frm (Frm.setCell w24 g11 0 (.slice RA p.next.length rc)) (fun k hk e => by have := hGh11; omega)
            have hA2 := hA.set h11 (by decide) (.slice RA p.next.length rc)
            have hP2 := hP.set h11 (by decide) (.slice RA p.next.length rc)
            have h112 : Blk (w24.setCell ⟨g11, 0, none⟩ (.slice RA p.next.length rc)) g11 138 #[.slice RA p.next.length rc] := by simpa using h11.set_ 0 (.slice RA p.next.length rc)
            have h102 := h10.far (p := ⟨g11, 0, none⟩) (by first | exact hne | exact hne.symm) (.slice RA p.next.length rc)
            refine hK.out _ _ ?_
            (try simp only [Act.put, List.setIfInBounds_toArray, List.set_cons_zero, List.set_cons_succ])
            clear hA hP h10 h11 Kh11 Zh11 hx0
            generalize w24.setCell ⟨g11, 0, none⟩ (.slice RA p.next.length rc) = w25 at *
            have hA := hA2; have hP := hP2; have h10 := h102; have h11 := h112; have hx0 := hx2
            clear hA2 hP2 h102 h112 hx2
            refine useq_nil ?_
            go_wp2_with fail
            go_meet
            exact ⟨g10, g11, UA, RA, uc, rc, rfl, rfl, hx0, h10, h11, hA, hP⟩
          · go_simp
            have hGh11 := hx0.size
            have hx1 := (Ext.refl w21).alloc (.cells #[.slice none 0 0] 138)
            replace hx0 := hx0.trans hx1
            replace hA := hA.ext hx1
            replace hP := hP.ext hx1
            clear hx1
            have h11 := Blk.new w21 138 #[.slice none 0 0]
            refine hK.out _ _ hx0 ?_
            (try simp only [Act.put, List.setIfInBounds_toArray, List.set_cons_zero, List.set_cons_succ])
            generalize w21.alloc (.cells #[.slice none 0 0] 138) = w22 at *
            generalize w21.heap.size = g11 at *
            (refine useq_step rfl rfl rfl (fun K hK => ?_); go_simp)
            have hne := Nat.ne_of_lt h11.lt
            have hGh10 := hx0.size
            have hx1 := (Ext.refl w22).alloc (.cells #[.slice none 0 0] 138)
            replace hx0 := hx0.trans hx1
            replace h11 := h11.ext hx1
            replace hA := hA.ext hx1
            replace hP := hP.ext hx1
            clear hx1
            have h10 := Blk.new w22 138 #[.slice none 0 0]
            refine hK.out _ _ hx0 ?_
            (try simp only [Act.put, List.setIfInBounds_toArray, List.set_cons_zero, List.set_cons_succ])
            generalize w22.alloc (.cells #[.slice none 0 0] 138) = w23 at *
            generalize w22.heap.size = g10 at *
            have Kh10 := h10.cell 0
            have Zh10 := h10.frozen 0
            (refine useq_last rfl rfl rfl rfl (fun K hK => ?_))
            go_simp
            have hx2 := hx0.frm (Frm.setCell w23 g10 0 (.slice UA a.next.length uc)) (fun k hk e => by have := hGh10; omega)
            have hA2 := hA.set h10 (by decide) (.slice UA a.next.length uc)
            have hP2 := hP.set h10 (by decide) (.slice UA a.next.length uc)
            have h102 : Blk (w23.setCell ⟨g10, 0, none⟩ (.slice UA a.next.length uc)) g10 138 #[.slice UA a.next.length uc] := by simpa using h10.set_ 0 (.slice UA a.next.length uc)
            have h112 := h11.far (p := ⟨g10, 0, none⟩) (by first | exact hne | exact hne.symm) (.slice UA a.next.length uc)
            refine hK.out _ _ ?_
            (try simp only [Act.put, List.setIfInBounds_toArray, List.set_cons_zero, List.set_cons_succ])
            clear hA hP h10 h11 Kh10 Zh10 hx0
            generalize w23.setCell ⟨g10, 0, none⟩ (.slice UA a.next.length uc) = w24 at *
            have hA := hA2; have hP := hP2; have h10 := h102; have h11 := h112; have hx0 := hx2
            clear hA2 hP2 h102 h112 hx2
            have Kh11 := h11.cell 0
            have Zh11 := h11.frozen 0
            (refine useq_last rfl rfl rfl rfl (fun K hK => ?_))
            go_simp
            have hx2 := hx0.frm (Frm.setCell w24 g11 0 (.slice RA p.next.length rc)) (fun k hk e => by have := hGh11; omega)
            have hA2 := hA.set h11 (by decide) (.slice RA p.next.length rc)
            have hP2 := hP.set h11 (by decide) (.slice RA p.next.length rc)
            have h112 : Blk (w24.setCell ⟨g11, 0, none⟩ (.slice RA p.next.length rc)) g11 138 #[.slice RA p.next.length rc] := by simpa using h11.set_ 0 (.slice RA p.next.length rc)
            have h102 := h10.far (p := ⟨g11, 0, none⟩) (by first | exact hne | exact hne.symm) (.slice RA p.next.length rc)
            refine hK.out _ _ ?_
            (try simp only [Act.put, List.setIfInBounds_toArray, List.set_cons_zero, List.set_cons_succ])
            clear hA hP h10 h11 Kh11 Zh11 hx0
            generalize w24.setCell ⟨g11, 0, none⟩ (.slice RA p.next.length rc) = w25 at *
            have hA := hA2; have hP := hP2; have h10 := h102; have h11 := h112; have hx0 := hx2
            clear hA2 hP2 h102 h112 hx2
            refine useq_nil ?_
            go_wp2_with fail
            go_meet
            exact ⟨g10, g11, UA, RA, uc, rc, rfl, rfl, hx0, h10, h11, hA, hP⟩
        · go_simp
          have hGh10 := hx0.size
          have hx1 := (Ext.refl w20).alloc (.cells #[.slice none 0 0] 138)
          replace hx0 := hx0.trans hx1
          replace hA := hA.ext hx1
          clear hx1
          have h10 := Blk.new w20 138 #[.slice none 0 0]
          refine hK.out _ _ hx0 ?_
          (try simp only [Act.put, List.setIfInBounds_toArray, List.set_cons_zero, List.set_cons_succ])
          generalize w20.alloc (.cells #[.slice none 0 0] 138) = w21 at *
          generalize w20.heap.size = g10 at *
          refine useq_both rfl rfl rfl rfl (fun K hK => ?_) (fun K hK => ?_)
          · go_simp
            refine (hTP.out _ hx0).mono ?_
            rintro e w22 ⟨RA, rc, rfl, hP, hx1⟩
            replace hx0 := hx0.trans hx1
            replace h10 := h10.ext hx1
            replace hA := hA.ext hx1
            clear hx1
            refine hK.out _ _ hx0 ?_
            (try simp only [Act.put, List.setIfInBounds_toArray, List.set_cons_zero, List.set_cons_succ])
            (refine useq_step rfl rfl rfl (fun K hK => ?_); go_simp)
            have hne := Nat.ne_of_lt h10.lt
            have hGh11 := hx0.size
            have hx1 := (Ext.refl w22).alloc (.cells #[.slice none 0 0] 138)
            replace hx0 := hx0.trans hx1
            replace h10 := h10.ext hx1
            replace hA := hA.ext hx1
            replace hP := hP.ext hx1
            clear hx1
            have h11 := Blk.new w22 138 #[.slice none 0 0]
            refine hK.out _ _ hx0 ?_
            (try simp only [Act.put, List.setIfInBounds_toArray, List.set_cons_zero, List.set_cons_succ])
            generalize w22.alloc (.cells #[.slice none 0 0] 138) = w23 at *
            generalize w22.heap.size = g11 at *
            have Kh10 := h10.cell 0
            have Zh10 := h10.frozen 0
            (refine useq_last rfl rfl rfl rfl (fun K hK => ?_))
            go_simp
            have hx2 := hx0.frm (Frm.setCell w23 g10 0 (.slice UA a.next.length uc)) (fun k hk e => by have := hGh10; omega)
            have hA2 := hA.set h10 (by decide) (.slice UA a.next.length uc)
            have hP2 := hP.set h10 (by decide) (.slice UA a.next.length uc)
            have h102 : Blk (w23.setCell ⟨g10, 0, none⟩ (.slice UA a.next.length uc)) g10 138 #[.slice UA a.next.length uc] := by simpa using h10.set_ 0 (.slice UA a.next.length uc)
            have h112 := h11.far (p := ⟨g10, 0, none⟩) (by first | exact hne | exact hne.symm) (.slice UA a.next.length uc)
            refine hK.out _ _ ?_
            (try simp only [Act.put, List.setIfInBounds_toArray, List.set_cons_zero, List.set_cons_succ])
            clear hA hP h10 h11 Kh10 Zh10 hx0
            generalize w23.setCell ⟨g10, 0, none⟩ (.slice UA a.next.length uc) = w24 at *
            have hA := hA2; have hP := hP2; have h10 := h102; have h11 := h112; have hx0 := hx2
            clear hA2 hP2 h102 h112 hx2
            have Kh11 := h11.cell 0
            have Zh11 := h11.frozen 0
            (refine useq_last rfl rfl rfl rfl (fun K hK => ?_))
            go_simp
            have hx2 := hx0.frm (Frm.setCell w24 g11 0 (.slice RA p.next.length rc)) (fun k hk e => by have := hGh11; omega)
            have hA2 := hA.set h11 (by decide) (.slice RA p.next.length rc)
            have hP2 := hP.set h11 (by decide) (.slice RA p.next.length rc)
            have h112 : Blk (w24.setCell ⟨g11, 0, none⟩ (.slice RA p.next.length rc)) g11 138 #[.slice RA p.next.length rc] := by simpa using h11.set_ 0 (.slice RA p.next.length rc)
            have h102 := h10.far (p := ⟨g11, 0, none⟩) (by first | exact hne | exact hne.symm) (.slice RA p.next.length rc)
            refine hK.out _ _ ?_
            (try simp only [Act.put, List.setIfInBounds_toArray, List.set_cons_zero, List.set_cons_succ])
            clear hA hP h10 h11 Kh11 Zh11 hx0
            generalize w24.setCell ⟨g11, 0, none⟩ (.slice RA p.next.length rc) = w25 at *
            have hA := hA2; have hP := hP2; have h10 := h102; have h11 := h112; have hx0 := hx2
            clear hA2 hP2 h102 h112 hx2
            refine useq_nil ?_
            go_wp2_with fail
            go_meet
            exact ⟨g10, g11, UA, RA, uc, rc, rfl, rfl, hx0, h10, h11, hA, hP⟩
          · go_simp
            have hne := Nat.ne_of_lt h10.lt
            have hGh11 := hx0.size
            have hx1 := (Ext.refl w21).alloc (.cells #[.slice none 0 0] 138)
            replace hx0 := hx0.trans hx1
            replace h10 := h10.ext hx1
            replace hA := hA.ext hx1
            clear hx1
            have h11 := Blk.new w21 138 #[.slice none 0 0]
            refine hK.out _ _ hx0 ?_
            (try simp only [Act.put, List.setIfInBounds_toArray, List.set_cons_zero, List.set_cons_succ])
            generalize w21.alloc (.cells #[.slice none 0 0] 138) = w22 at *
            generalize w21.heap.size = g11 at *
            (refine useq_last rfl rfl rfl rfl (fun K hK => ?_))
            go_simp
            refine (hTP.out _ hx0).mono ?_
            rintro e w23 ⟨RA, rc, rfl, hP, hx1⟩
            replace hx0 := hx0.trans hx1
            replace h10 := h10.ext hx1
            replace h11 := h11.ext hx1
            replace hA := hA.ext hx1
            clear hx1
            refine hK.out _ _ ?_
            (try simp only [Act.put, List.setIfInBounds_toArray, List.set_cons_zero, List.set_cons_succ])
            have Kh10 := h10.cell 0
            have Zh10 := h10.frozen 0
            (refine useq_last rfl rfl rfl rfl (fun K hK => ?_))
            go_simp
            have hx2 := hx0.frm (Frm.setCell w23 g10 0 (.slice UA a.next.length uc)) (fun k hk e => by have := hGh10; omega)
            have hA2 := hA.set h10 (by decide) (.slice UA a.next.length uc)
            have hP2 := hP.set h10 (by decide) (.slice UA a.next.length uc)
            have h102 : Blk (w23.setCell ⟨g10, 0, none⟩ (.slice UA a.next.length uc)) g10 138 #[.slice UA a.next.length uc] := by simpa using h10.set_ 0 (.slice UA a.next.length uc)
            have h112 := h11.far (p := ⟨g10, 0, none⟩) (by first | exact hne | exact hne.symm) (.slice UA a.next.length uc)
            refine hK.out _ _ ?_
            (try simp only [Act.put, List.setIfInBounds_toArray, List.set_cons_zero, List.set_cons_succ])
            clear hA hP h10 h11 Kh10 Zh10 hx0
            generalize w23.setCell ⟨g10, 0, none⟩ (.slice UA a.next.length uc) = w24 at *
            have hA := hA2; have hP := hP2; have h10 := h102; have h11 := h112; have hx0 := hx2
            clear hA2 hP2 h102 h112 hx2
            have Kh11 := h11.cell 0
            have Zh11 := h11.frozen 0
            (refine useq_last rfl rfl rfl rfl (fun K hK => ?_))
            go_simp
            have hx2 := hx0.frm (Frm.setCell w24 g11 0 (.slice RA p.next.length rc)) (fun k hk e => by have := hGh11; omega)
            have hA2 := hA.set h11 (by decide) (.slice RA p.next.length rc)
            have hP2 := hP.set h11 (by decide) (.slice RA p.next.length rc)
            have h112 : Blk (w24.setCell ⟨g11, 0, none⟩ (.slice RA p.next.length rc)) g11 138 #[.slice RA p.next.length rc] := by simpa using h11.set_ 0 (.slice RA p.next.length rc)
            have h102 := h10.far (p := ⟨g11, 0, none⟩) (by first | exact hne | exact hne.symm) (.slice RA p.next.length rc)
            refine hK.out _ _ ?_
            (try simp only [Act.put, List.setIfInBounds_toArray, List.set_cons_zero, List.set_cons_succ])
            clear hA hP h10 h11 Kh11 Zh11 hx0
            generalize w24.setCell ⟨g11, 0, none⟩ (.slice RA p.next.length rc) = w25 at *
            have hA := hA2; have hP := hP2; have h10 := h102; have h11 := h112; have hx0 := hx2
            clear hA2 hP2 h102 h112 hx2
            refine useq_nil ?_
            go_wp2_with fail
            go_meet
            exact ⟨g10, g11, UA, RA, uc, rc, rfl, rfl, hx0, h10, h11, hA, hP⟩
        · go_simp
          have hGh11 := hx0.size
          have hx1 := (Ext.refl w20).alloc (.cells #[.slice none 0 0] 138)
          replace hx0 := hx0.trans hx1
          replace hA := hA.ext hx1
          clear hx1
          have h11 := Blk.new w20 138 #[.slice none 0 0]
          refine hK.out _ _ hx0 ?_
          (try simp only [Act.put, List.setIfInBounds_toArray, List.set_cons_zero, List.set_cons_succ])
          generalize w20.alloc (.cells #[.slice none 0 0] 138) = w21 at *
          generalize w20.heap.size = g11 at *
          refine useq_both rfl rfl rfl rfl (fun K hK => ?_) (fun K hK => ?_)
          · go_simp
            refine (hTP.out _ hx0).mono ?_
            rintro e w22 ⟨RA, rc, rfl, hP, hx1⟩
            replace hx0 := hx0.trans hx1
            replace h11 := h11.ext hx1
            replace hA := hA.ext hx1
            clear hx1
            refine hK.out _ _ hx0 ?_
            (try simp only [Act.put, List.setIfInBounds_toArray, List.set_cons_zero, List.set_cons_succ])
            (refine useq_step rfl rfl rfl (fun K hK => ?_); go_simp)
            have hne := Nat.ne_of_lt h11.lt
            have hGh10 := hx0.size
            have hx1 := (Ext.refl w22).alloc (.cells #[.slice none 0 0] 138)
            replace hx0 := hx0.trans hx1
            replace h11 := h11.ext hx1
            replace hA := hA.ext hx1
            replace hP := hP.ext hx1
            clear hx1
            have h10 := Blk.new w22 138 #[.slice none 0 0]
            refine hK.out _ _ hx0 ?_
            (try simp only [Act.put, List.setIfInBounds_toArray, List.set_cons_zero, List.set_cons_succ])
            generalize w22.alloc (.cells #[.slice none 0 0] 138) = w23 at *
            generalize w22.heap.size = g10 at *
            have Kh10 := h10.cell 0
            have Zh10 := h10.frozen 0
            (refine useq_last rfl rfl rfl rfl (fun K hK => ?_))
            go_simp
            have hx2 := hx0.frm (Frm.setCell w23 g10 0 (.slice UA a.next.length uc)) (fun k hk e => by have := hGh10; omega)
            have hA2 := hA.set h10 (by decide) (.slice UA a.next.length uc)
            have hP2 := hP.set h10 (by decide) (.slice UA a.next.length uc)
            have h102 : Blk (w23.setCell ⟨g10, 0, none⟩ (.slice UA a.next.length uc)) g10 138 #[.slice UA a.next.length uc] := by simpa using h10.set_ 0 (.slice UA a.next.length uc)
            have h112 := h11.far (p := ⟨g10, 0, none⟩) (by first | exact hne | exact hne.symm) (.slice UA a.next.length uc)
            refine hK.out _ _ ?_
            (try simp only [Act.put, List.setIfInBounds_toArray, List.set_cons_zero, List.set_cons_succ])
            clear hA hP h10 h11 Kh10 Zh10 hx0
            generalize w23.setCell ⟨g10, 0, none⟩ (.slice UA a.next.length uc) = w24 at *
            have hA := hA2; have hP := hP2; have h10 := h102; have h11 := h112; have hx0 := hx2
            clear hA2 hP2 h102 h112 hx2
            have Kh11 := h11.cell 0
            have Zh11 := h11.frozen 0
            (refine useq_last rfl rfl rfl rfl (fun K hK => ?_))
            go_simp
            have hx2 := hx0.frm (Frm.setCell w24 g11 0 (.slice RA p.next.length rc)) (fun k hk e => by have := hGh11; omega)
            have hA2 := hA.set h11 (by decide) (.slice RA p.next.length rc)
            have hP2 := hP.set h11 (by decide) (.slice RA p.next.length rc)
            have h112 : Blk (w24.setCell ⟨g11, 0, none⟩ (.slice RA p.next.length rc)) g11 138 #[.slice RA p.next.length rc] := by simpa using h11.set_ 0 (.slice RA p.next.length rc)
            have h102 := h10.far (p := ⟨g11, 0, none⟩) (by first | exact hne | exact hne.symm) (.slice RA p.next.length rc)
            refine hK.out _ _ ?_
            (try simp only [Act.put, List.setIfInBounds_toArray, List.set_cons_zero, List.set_cons_succ])
            clear hA hP h10 h11 Kh11 Zh11 hx0
            generalize w24.setCell ⟨g11, 0, none⟩ (.slice RA p.next.length rc) = w25 at *
            have hA := hA2; have hP := hP2; have h10 := h102; have h11 := h112; have hx0 := hx2
            clear hA2 hP2 h102 h112 hx2
            refine useq_nil ?_
            go_wp2_with fail
            go_meet
            exact ⟨g10, g11, UA, RA, uc, rc, rfl, rfl, hx0, h10, h11, hA, hP⟩
          · go_simp
            have hne := Nat.ne_of_lt h11.lt
            have hGh10 := hx0.size
            have hx1 := (Ext.refl w21).alloc (.cells #[.slice none 0 0] 138)
            replace hx0 := hx0.trans hx1
            replace h11 := h11.ext hx1
            replace hA := hA.ext hx1
            clear hx1
            have h10 := Blk.new w21 138 #[.slice none 0 0]
            refine hK.out _ _ hx0 ?_
            (try simp only [Act.put, List.setIfInBounds_toArray, List.set_cons_zero, List.set_cons_succ])
            generalize w21.alloc (.cells #[.slice none 0 0] 138) = w22 at *
            generalize w21.heap.size = g10 at *
            (refine useq_last rfl rfl rfl rfl (fun K hK => ?_))
            go_simp
            refine (hTP.out _ hx0).mono ?_
            rintro e w23 ⟨RA, rc, rfl, hP, hx1⟩
            replace hx0 := hx0.trans hx1
            replace h10 := h10.ext hx1
            replace h11 := h11.ext hx1
            replace hA := hA.ext hx1
            clear hx1
            refine hK.out _ _ ?_
            (try simp only [Act.put, List.setIfInBounds_toArray, List.set_cons_zero, List.set_cons_succ])
            have Kh10 := h10.cell 0
            have Zh10 := h10.frozen 0
            (refine useq_last rfl rfl rfl rfl (fun K hK => ?_))
            go_simp
            have hx2 := hx0.frm (Frm.setCell w23 g10 0 (.slice UA a.next.length uc)) (fun k hk e => by have := hGh10; omega)
            have hA2 := hA.set h10 (by decide) (.slice UA a.next.length uc)
            have hP2 := hP.set h10 (by decide) (.slice UA a.next.length uc)
            have h102 : Blk (w23.setCell ⟨g10, 0, none⟩ (.slice UA a.next.length uc)) g10 138 #[.slice UA a.next.length uc] := by simpa using h10.set_ 0 (.slice UA a.next.length uc)
            have h112 := h11.far (p := ⟨g10, 0, none⟩) (by first | exact hne | exact hne.symm) (.slice UA a.next.length uc)
            refine hK.out _ _ ?_
            (try simp only [Act.put, List.setIfInBounds_toArray, List.set_cons_zero, List.set_cons_succ])
            clear hA hP h10 h11 Kh10 Zh10 hx0
            generalize w23.setCell ⟨g10, 0, none⟩ (.slice UA a.next.length uc) = w24 at *
            have hA := hA2; have hP := hP2; have h10 := h102; have h11 := h112; have hx0 := hx2
            clear hA2 hP2 h102 h112 hx2
            have Kh11 := h11.cell 0
            have Zh11 := h11.frozen 0
            (refine useq_last rfl rfl rfl rfl (fun K hK => ?_))
            go_simp
            have hx2 := hx0.frm (Frm.setCell w24 g11 0 (.slice RA p.next.length rc)) (fun k hk e => by have := hGh11; omega)
            have hA2 := hA.set h11 (by decide) (.slice RA p.next.length rc)
            have hP2 := hP.set h11 (by decide) (.slice RA p.next.length rc)
            have h112 : Blk (w24.setCell ⟨g11, 0, none⟩ (.slice RA p.next.length rc)) g11 138 #[.slice RA p.next.length rc] := by simpa using h11.set_ 0 (.slice RA p.next.length rc)
            have h102 := h10.far (p := ⟨g11, 0, none⟩) (by first | exact hne | exact hne.symm) (.slice RA p.next.length rc)
            refine hK.out _ _ ?_
            (try simp only [Act.put, List.setIfInBounds_toArray, List.set_cons_zero, List.set_cons_succ])
            clear hA hP h10 h11 Kh11 Zh11 hx0
            generalize w24.setCell ⟨g11, 0, none⟩ (.slice RA p.next.length rc) = w25 at *
            have hA := hA2; have hP := hP2; have h10 := h102; have h11 := h112; have hx0 := hx2
            clear hA2 hP2 h102 h112 hx2
            refine useq_nil ?_
            go_wp2_with fail
            go_meet
            exact ⟨g10, g11, UA, RA, uc, rc, rfl, rfl, hx0, h10, h11, hA, hP⟩
      · go_simp
        have hGh10 := hx0.size
        have hx1 := (Ext.refl wd).alloc (.cells #[.slice none 0 0] 138)
        replace hx0 := hx0.trans hx1
        clear hx1
        have h10 := Blk.new wd 138 #[.slice none 0 0]
        refine hK.out _ _ hx0 ?_
        (try simp only [Act.put, List.setIfInBounds_toArray, List.set_cons_zero, List.set_cons_succ])
        generalize wd.alloc (.cells #[.slice none 0 0] 138) = w20 at *
        generalize wd.heap.size = g10 at *
        refine useq_both rfl rfl rfl rfl (fun K hK => ?_) (fun K hK => ?_)
        · go_simp
          refine (hTA.out _ hx0).mono ?_
          rintro e w21 ⟨UA, uc, rfl, hA, hx1⟩
          replace hx0 := hx0.trans hx1
          replace h10 := h10.ext hx1
          clear hx1
          refine hK.out _ _ hx0 ?_
          (try simp only [Act.put, List.setIfInBounds_toArray, List.set_cons_zero, List.set_cons_succ])
          refine useq_both rfl rfl rfl rfl (fun K hK => ?_) (fun K hK => ?_)
          · go_simp
            refine (hTP.out _ hx0).mono ?_
            rintro e w22 ⟨RA, rc, rfl, hP, hx1⟩
            replace hx0 := hx0.trans hx1
            replace h10 := h10.ext hx1
            replace hA := hA.ext hx1
            clear hx1
            refine hK.out _ _ hx0 ?_
            (try simp only [Act.put, List.setIfInBounds_toArray, List.set_cons_zero, List.set_cons_succ])
            (refine useq_step rfl rfl rfl (fun K hK => ?_); go_simp)
            have hne := Nat.ne_of_lt h10.lt
            have hGh11 := hx0.size
            have hx1 := (Ext.refl w22).alloc (.cells #[.slice none 0 0] 138)
            replace hx0 := hx0.trans hx1
            replace h10 := h10.ext hx1
            replace hA := hA.ext hx1
            replace hP := hP.ext hx1
            clear hx1
            have h11 := Blk.new w22 138 #[.slice none 0 0]
            refine hK.out _ _ hx0 ?_
            (try simp only [Act.put, List.setIfInBounds_toArray, List.set_cons_zero, List.set_cons_succ])
            generalize w22.alloc (.cells #[.slice none 0 0] 138) = w23 at *
            generalize w22.heap.size = g11 at *
            have Kh10 := h10.cell 0
            have Zh10 := h10.frozen 0
            (refine useq_last rfl rfl rfl rfl (fun K hK => ?_))
            go_simp
            have hx2 := hx0.frm (Frm.setCell w23 g10 0 (.slice UA a.next.length uc)) (fun k hk e => by have := hGh10; omega)
            have hA2 := hA.set h10 (by decide) (.slice UA a.next.length uc)
            have hP2 := hP.set h10 (by decide) (.slice UA a.next.length uc)
            have h102 : Blk (w23.setCell ⟨g10, 0, none⟩ (.slice UA a.next.length uc)) g10 138 #[.slice UA a.next.length uc] := by simpa using h10.set_ 0 (.slice UA a.next.length uc)
            have h112 := h11.far (p := ⟨g10, 0, none⟩) (by first | exact hne | exact hne.symm) (.slice UA a.next.length uc)
            refine hK.out _ _ ?_
            (try simp only [Act.put, List.setIfInBounds_toArray, List.set_cons_zero, List.set_cons_succ])
            clear hA hP h10 h11 Kh10 Zh10 hx0
            generalize w23.setCell ⟨g10, 0, none⟩ (.slice UA a.next.length uc) = w24 at *
            have hA := hA2; have hP := hP2; have h10 := h102; have h11 := h112; have hx0 := hx2
            clear hA2 hP2 h102 h112 hx2
            have Kh11 := h11.cell 0
            have Zh11 := h11.frozen 0
            (refine useq_last rfl rfl rfl rfl (fun K hK => ?_))
            go_simp
            have hx2 := hx0.frm (Frm.setCell w24 g11 0 (.slice RA p.next.length rc)) (fun k hk e => by have := hGh11; omega)
            have hA2 := hA.set h11 (by decide) (.slice RA p.next.length rc)
            have hP2 := hP.set h11 (by decide) (.slice RA p.next.length rc)
            have h112 : Blk (w24.setCell ⟨g11, 0, none⟩ (.slice RA p.next.length rc)) g11 138 #[.slice RA p.next.length rc] := by simpa using h11.set_ 0 (.slice RA p.next.length rc)
            have h102 := h10.far (p := ⟨g11, 0, none⟩) (by first | exact hne | exact hne.symm) (.slice RA p.next.length rc)
            refine hK.out _ _ ?_
            (try simp only [Act.put, List.setIfInBounds_toArray, List.set_cons_zero, List.set_cons_succ])
            clear hA hP h10 h11 Kh11 Zh11 hx0
            generalize w24.setCell ⟨g11, 0, none⟩ (.slice RA p.next.length rc) = w25 at *
            have hA := hA2; have hP := hP2; have h10 := h102; have h11 := h112; have hx0 := hx2
            clear hA2 hP2 h102 h112 hx2
            refine useq_nil ?_
            go_wp2_with fail
            go_meet
            exact ⟨g10, g11, UA, RA, uc, rc, rfl, rfl, hx0, h10, h11, hA, hP⟩
          · go_simp
            have hne := Nat.ne_of_lt h10.lt
            have hGh11 := hx0.size
            have hx1 := (Ext.refl w21).alloc (.cells #[.slice none 0 0] 138)
            replace hx0 := hx0.trans hx1
            replace h10 := h10.ext hx1
            replace hA := hA.ext hx1
            clear hx1
            have h11 := Blk.new w21 138 #[.slice none 0 0]
            refine hK.out _ _ hx0 ?_
            (try simp only [Act.put, List.setIfInBounds_toArray, List.set_cons_zero, List.set_cons_succ])
            generalize w21.alloc (.cells #[.slice none 0 0] 138) = w22 at *
            generalize w21.heap.size = g11 at *
            (refine useq_last rfl rfl rfl rfl (fun K hK => ?_))
            go_simp
            refine (hTP.out _ hx0).mono ?_
            rintro e w23 ⟨RA, rc, rfl, hP, hx1⟩
            replace hx0 := hx0.trans hx1
            replace h10 := h10.ext hx1
            replace h11 := h11.ext hx1
            replace hA := hA.ext hx1
            clear hx1
            refine hK.out _ _ ?_
            (try simp only [Act.put, List.setIfInBounds_toArray, List.set_cons_zero, List.set_cons_succ])
            have Kh10 := h10.cell 0
            have Zh10 := h10.frozen 0
            (refine useq_last rfl rfl rfl rfl (fun K hK => ?_))
            go_simp
            have hx2 := hx0.frm (Frm.setCell w23 g10 0 (.slice UA a.next.length uc)) (fun k hk e => by have := hGh10; omega)
            have hA2 := hA.set h10 (by decide) (.slice UA a.next.length uc)
            have hP2 := hP.set h10 (by decide) (.slice UA a.next.length uc)
            have h102 : Blk (w23.setCell ⟨g10, 0, none⟩ (.slice UA a.next.length uc)) g10 138 #[.slice UA a.next.length uc] := by simpa using h10.set_ 0 (.slice UA a.next.length uc)
            have h112 := h11.far (p := ⟨g10, 0, none⟩) (by first | exact hne | exact hne.symm) (.slice UA a.next.length uc)
            refine hK.out _ _ ?_
            (try simp only [Act.put, List.setIfInBounds_toArray, List.set_cons_zero, List.set_cons_succ])
            clear hA hP h10 h11 Kh10 Zh10 hx0
            generalize w23.setCell ⟨g10, 0, none⟩ (.slice UA a.next.length uc) = w24 at *
            have hA := hA2; have hP := hP2; have h10 := h102; have h11 := h112; have hx0 := hx2
            clear hA2 hP2 h102 h112 hx2
            have Kh11 := h11.cell 0
            have Zh11 := h11.frozen 0
            (refine useq_last rfl rfl rfl rfl (fun K hK => ?_))
            go_simp
            have hx2 := hx0.frm (Frm.setCell w24 g11 0 (.slice RA p.next.length rc)) (fun k hk e => by have := hGh11; omega)
            have hA2 := hA.set h11 (by decide) (.slice RA p.next.length rc)
            have hP2 := hP.set h11 (by decide) (.slice RA p.next.length rc)
            have h112 : Blk (w24.setCell ⟨g11, 0, none⟩ (.slice RA p.next.length rc)) g11 138 #[.slice RA p.next.length rc] := by simpa using h11.set_ 0 (.slice RA p.next.length rc)
            have h102 := h10.far (p := ⟨g11, 0, none⟩) (by first | exact hne | exact hne.symm) (.slice RA p.next.length rc)
            refine hK.out _ _ ?_
            (try simp only [Act.put, List.setIfInBounds_toArray, List.set_cons_zero, List.set_cons_succ])
            clear hA hP h10 h11 Kh11 Zh11 hx0
            generalize w24.setCell ⟨g11, 0, none⟩ (.slice RA p.next.length rc) = w25 at *
            have hA := hA2; have hP := hP2; have h10 := h102; have h11 := h112; have hx0 := hx2
            clear hA2 hP2 h102 h112 hx2
            refine useq_nil ?_
            go_wp2_with fail
            go_meet
            exact ⟨g10, g11, UA, RA, uc, rc, rfl, rfl, hx0, h10, h11, hA, hP⟩
        · go_simp
          have hne := Nat.ne_of_lt h10.lt
          have hGh11 := hx0.size
          have hx1 := (Ext.refl w20).alloc (.cells #[.slice none 0 0] 138)
          replace hx0 := hx0.trans hx1
          replace h10 := h10.ext hx1
          clear hx1
          have h11 := Blk.new w20 138 #[.slice none 0 0]
          refine hK.out _ _ hx0 ?_
          (try simp only [Act.put, List.setIfInBounds_toArray, List.set_cons_zero, List.set_cons_succ])
          generalize w20.alloc (.cells #[.slice none 0 0] 138) = w21 at *
          generalize w20.heap.size = g11 at *
          (refine useq_step rfl rfl rfl (fun K hK => ?_); go_simp)
          refine (hTA.out _ hx0).mono ?_
          rintro e w22 ⟨UA, uc, rfl, hA, hx1⟩
          replace hx0 := hx0.trans hx1
          replace h10 := h10.ext hx1
          replace h11 := h11.ext hx1
          clear hx1
          refine hK.out _ _ hx0 ?_
          (try simp only [Act.put, List.setIfInBounds_toArray, List.set_cons_zero, List.set_cons_succ])
          (refine useq_last rfl rfl rfl rfl (fun K hK => ?_))
          go_simp
          refine (hTP.out _ hx0).mono ?_
          rintro e w23 ⟨RA, rc, rfl, hP, hx1⟩
          replace hx0 := hx0.trans hx1
          replace h10 := h10.ext hx1
          replace h11 := h11.ext hx1
          replace hA := hA.ext hx1
          clear hx1
          refine hK.out _ _ ?_
          (try simp only [Act.put, List.setIfInBounds_toArray, List.set_cons_zero, List.set_cons_succ])
          have Kh10 := h10.cell 0
          have Zh10 := h10.frozen 0
          (refine useq_last rfl rfl rfl rfl (fun K hK => ?_))
          go_simp
          have hx2 := hx0.frm (Frm.setCell w23 g10 0 (.slice UA a.next.length uc)) (fun k hk e => by have := hGh10; omega)
          have hA2 := hA.set h10 (by decide) (.slice UA a.next.length uc)
          have hP2 := hP.set h10 (by decide) (.slice UA a.next.length uc)
          have h102 : Blk (w23.setCell ⟨g10, 0, none⟩ (.slice UA a.next.length uc)) g10 138 #[.slice UA a.next.length uc] := by simpa using h10.set_ 0 (.slice UA a.next.length uc)
          have h112 := h11.far (p := ⟨g10, 0, none⟩) (by first | exact hne | exact hne.symm) (.slice UA a.next.length uc)
          refine hK.out _ _ ?_
          (try simp only [Act.put, List.setIfInBounds_toArray, List.set_cons_zero, List.set_cons_succ])
          clear hA hP h10 h11 Kh10 Zh10 hx0
          generalize w23.setCell ⟨g10, 0, none⟩ (.slice UA a.next.length uc) = w24 at *
          have hA := hA2; have hP := hP2; have h10 := h102; have h11 := h112; have hx0 := hx2
          clear hA2 hP2 h102 h112 hx2
          have Kh11 := h11.cell 0
          have Zh11 := h11.frozen 0
          (refine useq_last rfl rfl rfl rfl (fun K hK => ?_))
          go_simp
          have hx2 := hx0.frm (Frm.setCell w24 g11 0 (.slice RA p.next.length rc)) (fun k hk e => by have := hGh11; omega)
          have hA2 := hA.set h11 (by decide) (.slice RA p.next.length rc)
          have hP2 := hP.set h11 (by decide) (.slice RA p.next.length rc)
          have h112 : Blk (w24.setCell ⟨g11, 0, none⟩ (.slice RA p.next.length rc)) g11 138 #[.slice RA p.next.length rc] := by simpa using h11.set_ 0 (.slice RA p.next.length rc)
          have h102 := h10.far (p := ⟨g11, 0, none⟩) (by first | exact hne | exact hne.symm) (.slice RA p.next.length rc)
          refine hK.out _ _ ?_
          (try simp only [Act.put, List.setIfInBounds_toArray, List.set_cons_zero, List.set_cons_succ])
          clear hA hP h10 h11 Kh11 Zh11 hx0
          generalize w24.setCell ⟨g11, 0, none⟩ (.slice RA p.next.length rc) = w25 at *
          have hA := hA2; have hP := hP2; have h10 := h102; have h11 := h112; have hx0 := hx2
          clear hA2 hP2 h102 h112 hx2
          refine useq_nil ?_
          go_wp2_with fail
          go_meet
          exact ⟨g10, g11, UA, RA, uc, rc, rfl, rfl, hx0, h10, h11, hA, hP⟩
      · go_simp
        have hGh11 := hx0.size
        have hx1 := (Ext.refl wd).alloc (.cells #[.slice none 0 0] 138)
        replace hx0 := hx0.trans hx1
        clear hx1
        have h11 := Blk.new wd 138 #[.slice none 0 0]
        refine hK.out _ _ hx0 ?_
        (try simp only [Act.put, List.setIfInBounds_toArray, List.set_cons_zero, List.set_cons_succ])
        generalize wd.alloc (.cells #[.slice none 0 0] 138) = w20 at *
        generalize wd.heap.size = g11 at *
        refine useq_both rfl rfl rfl rfl (fun K hK => ?_) (fun K hK => ?_)
        · go_simp
          refine (hTA.out _ hx0).mono ?_
          rintro e w21 ⟨UA, uc, rfl, hA, hx1⟩
          replace hx0 := hx0.trans hx1
          replace h11 := h11.ext hx1
          clear hx1
          refine hK.out _ _ hx0 ?_
          (try simp only [Act.put, List.setIfInBounds_toArray, List.set_cons_zero, List.set_cons_succ])
          refine useq_both rfl rfl rfl rfl (fun K hK => ?_) (fun K hK => ?_)
          · go_simp
            refine (hTP.out _ hx0).mono ?_
            rintro e w22 ⟨RA, rc, rfl, hP, hx1⟩
            replace hx0 := hx0.trans hx1
            replace h11 := h11.ext hx1
            replace hA := hA.ext hx1
            clear hx1
            refine hK.out _ _ hx0 ?_
            (try simp only [Act.put, List.setIfInBounds_toArray, List.set_cons_zero, List.set_cons_succ])
            (refine useq_step rfl rfl rfl (fun K hK => ?_); go_simp)
            have hne := Nat.ne_of_lt h11.lt
            have hGh10 := hx0.size
            have hx1 := (Ext.refl w22).alloc (.cells #[.slice none 0 0] 138)
            replace hx0 := hx0.trans hx1
            replace h11 := h11.ext hx1
            replace hA := hA.ext hx1
            replace hP := hP.ext hx1
            clear hx1
            have h10 := Blk.new w22 138 #[.slice none 0 0]
            refine hK.out _ _ hx0 ?_
            (try simp only [Act.put, List.setIfInBounds_toArray, List.set_cons_zero, List.set_cons_succ])
            generalize w22.alloc (.cells #[.slice none 0 0] 138) = w23 at *
            generalize w22.heap.size = g10 at *
            have Kh10 := h10.cell 0
            have Zh10 := h10.frozen 0
            (refine useq_last rfl rfl rfl rfl (fun K hK => ?_))
            go_simp
            have hx2 := hx0.frm (Frm.setCell w23 g10 0 (.slice UA a.next.length uc)) (fun k hk e => by have := hGh10; omega)
            have hA2 := hA.set h10 (by decide) (.slice UA a.next.length uc)
            have hP2 := hP.set h10 (by decide) (.slice UA a.next.length uc)
            have h102 : Blk (w23.setCell ⟨g10, 0, none⟩ (.slice UA a.next.length uc)) g10 138 #[.slice UA a.next.length uc] := by simpa using h10.set_ 0 (.slice UA a.next.length uc)
            have h112 := h11.far (p := ⟨g10, 0, none⟩) (by first | exact hne | exact hne.symm) (.slice UA a.next.length uc)
            refine hK.out _ _ ?_
            (try simp only [Act.put, List.setIfInBounds_toArray, List.set_cons_zero, List.set_cons_succ])
            clear hA hP h10 h11 Kh10 Zh10 hx0
            generalize w23.setCell ⟨g10, 0, none⟩ (.slice UA a.next.length uc) = w24 at *
            have hA := hA2; have hP := hP2; have h10 := h102; have h11 := h112; have hx0 := hx2
            clear hA2 hP2 h102 h112 hx2
            have Kh11 := h11.cell 0
            have Zh11 := h11.frozen 0
            (refine useq_last rfl rfl rfl rfl (fun K hK => ?_))
            go_simp
            have hx2 := hx0.frm (Frm.setCell w24 g11 0 (.slice RA p.next.length rc)) (fun k hk e => by have := hGh11; omega)
            have hA2 := hA.set h11 (by decide) (.slice RA p.next.length rc)
            have hP2 := hP.set h11 (by decide) (.slice RA p.next.length rc)
            have h112 : Blk (w24.setCell ⟨g11, 0, none⟩ (.slice RA p.next.length rc)) g11 138 #[.slice RA p.next.length rc] := by simpa using h11.set_ 0 (.slice RA p.next.length rc)
            have h102 := h10.far (p := ⟨g11, 0, none⟩) (by first | exact hne | exact hne.symm) (.slice RA p.next.length rc)
            refine hK.out _ _ ?_
            (try simp only [Act.put, List.setIfInBounds_toArray, List.set_cons_zero, List.set_cons_succ])
            clear hA hP h10 h11 Kh11 Zh11 hx0
            generalize w24.setCell ⟨g11, 0, none⟩ (.slice RA p.next.length rc) = w25 at *
            have hA := hA2; have hP := hP2; have h10 := h102; have h11 := h112; have hx0 := hx2
            clear hA2 hP2 h102 h112 hx2
            refine useq_nil ?_
            go_wp2_with fail
            go_meet
            exact ⟨g10, g11, UA, RA, uc, rc, rfl, rfl, hx0, h10, h11, hA, hP⟩
          · go_simp
            have hne := Nat.ne_of_lt h11.lt
            have hGh10 := hx0.size
            have hx1 := (Ext.refl w21).alloc (.cells #[.slice none 0 0] 138)
            replace hx0 := hx0.trans hx1
            replace h11 := h11.ext hx1
            replace hA := hA.ext hx1
            clear hx1
            have h10 := Blk.new w21 138 #[.slice none 0 0]
            refine hK.out _ _ hx0 ?_
            (try simp only [Act.put, List.setIfInBounds_toArray, List.set_cons_zero, List.set_cons_succ])
            generalize w21.alloc (.cells #[.slice none 0 0] 138) = w22 at *
            generalize w21.heap.size = g10 at *
            (refine useq_last rfl rfl rfl rfl (fun K hK => ?_))
            go_simp
            refine (hTP.out _ hx0).mono ?_
            rintro e w23 ⟨RA, rc, rfl, hP, hx1⟩
            replace hx0 := hx0.trans hx1
            replace h10 := h10.ext hx1
            replace h11 := h11.ext hx1
            replace hA := hA.ext hx1
            clear hx1
            refine hK.out _ _ ?_
            (try simp only [Act.put, List.setIfInBounds_toArray, List.set_cons_zero, List.set_cons_succ])
            have Kh10 := h10.cell 0
            have Zh10 := h10.frozen 0
            (refine useq_last rfl rfl rfl rfl (fun K hK => ?_))
            go_simp
            have hx2 := hx0.frm (Frm.setCell w23 g10 0 (.slice UA a.next.length uc)) (fun k hk e => by have := hGh10; omega)
            have hA2 := hA.set h10 (by decide) (.slice UA a.next.length uc)
            have hP2 := hP.set h10 (by decide) (.slice UA a.next.length uc)
            have h102 : Blk (w23.setCell ⟨g10, 0, none⟩ (.slice UA a.next.length uc)) g10 138 #[.slice UA a.next.length uc] := by simpa using h10.set_ 0 (.slice UA a.next.length uc)
            have h112 := h11.far (p := ⟨g10, 0, none⟩) (by first | exact hne | exact hne.symm) (.slice UA a.next.length uc)
            refine hK.out _ _ ?_
            (try simp only [Act.put, List.setIfInBounds_toArray, List.set_cons_zero, List.set_cons_succ])
            clear hA hP h10 h11 Kh10 Zh10 hx0
            generalize w23.setCell ⟨g10, 0, none⟩ (.slice UA a.next.length uc) = w24 at *
            have hA := hA2; have hP := hP2; have h10 := h102; have h11 := h112; have hx0 := hx2
            clear hA2 hP2 h102 h112 hx2
            have Kh11 := h11.cell 0
            have Zh11 := h11.frozen 0
            (refine useq_last rfl rfl rfl rfl (fun K hK => ?_))
            go_simp
            have hx2 := hx0.frm (Frm.setCell w24 g11 0 (.slice RA p.next.length rc)) (fun k hk e => by have := hGh11; omega)
            have hA2 := hA.set h11 (by decide) (.slice RA p.next.length rc)
            have hP2 := hP.set h11 (by decide) (.slice RA p.next.length rc)
            have h112 : Blk (w24.setCell ⟨g11, 0, none⟩ (.slice RA p.next.length rc)) g11 138 #[.slice RA p.next.length rc] := by simpa using h11.set_ 0 (.slice RA p.next.length rc)
            have h102 := h10.far (p := ⟨g11, 0, none⟩) (by first | exact hne | exact hne.symm) (.slice RA p.next.length rc)
            refine hK.out _ _ ?_
            (try simp only [Act.put, List.setIfInBounds_toArray, List.set_cons_zero, List.set_cons_succ])
            clear hA hP h10 h11 Kh11 Zh11 hx0
            generalize w24.setCell ⟨g11, 0, none⟩ (.slice RA p.next.length rc) = w25 at *
            have hA := hA2; have hP := hP2; have h10 := h102; have h11 := h112; have hx0 := hx2
            clear hA2 hP2 h102 h112 hx2
            refine useq_nil ?_
            go_wp2_with fail
            go_meet
            exact ⟨g10, g11, UA, RA, uc, rc, rfl, rfl, hx0, h10, h11, hA, hP⟩
        · go_simp
          have hne := Nat.ne_of_lt h11.lt
          have hGh10 := hx0.size
          have hx1 := (Ext.refl w20).alloc (.cells #[.slice none 0 0] 138)
          replace hx0 := hx0.trans hx1
          replace h11 := h11.ext hx1
          clear hx1
          have h10 := Blk.new w20 138 #[.slice none 0 0]
          refine hK.out _ _ hx0 ?_
          (try simp only [Act.put, List.setIfInBounds_toArray, List.set_cons_zero, List.set_cons_succ])
          generalize w20.alloc (.cells #[.slice none 0 0] 138) = w21 at *
          generalize w20.heap.size = g10 at *
          (refine useq_step rfl rfl rfl (fun K hK => ?_); go_simp)
          refine (hTA.out _ hx0).mono ?_
          rintro e w22 ⟨UA, uc, rfl, hA, hx1⟩
          replace hx0 := hx0.trans hx1
          replace h10 := h10.ext hx1
          replace h11 := h11.ext hx1
          clear hx1
          refine hK.out _ _ hx0 ?_
          (try simp only [Act.put, List.setIfInBounds_toArray, List.set_cons_zero, List.set_cons_succ])
          (refine useq_last rfl rfl rfl rfl (fun K hK => ?_))
          go_simp
          refine (hTP.out _ hx0).mono ?_
          rintro e w23 ⟨RA, rc, rfl, hP, hx1⟩
          replace hx0 := hx0.trans hx1
          replace h10 := h10.ext hx1
          replace h11 := h11.ext hx1
          replace hA := hA.ext hx1
          clear hx1
          refine hK.out _ _ ?_
          (try simp only [Act.put, List.setIfInBounds_toArray, List.set_cons_zero, List.set_cons_succ])
          have Kh10 := h10.cell 0
          have Zh10 := h10.frozen 0
          (refine useq_last rfl rfl rfl rfl (fun K hK => ?_))
          go_simp
          have hx2 := hx0.frm (Frm.setCell w23 g10 0 (.slice UA a.next.length uc)) (fun k hk e => by have := hGh10; omega)
          have hA2 := hA.set h10 (by decide) (.slice UA a.next.length uc)
          have hP2 := hP.set h10 (by decide) (.slice UA a.next.length uc)
          have h102 : Blk (w23.setCell ⟨g10, 0, none⟩ (.slice UA a.next.length uc)) g10 138 #[.slice UA a.next.length uc] := by simpa using h10.set_ 0 (.slice UA a.next.length uc)
          have h112 := h11.far (p := ⟨g10, 0, none⟩) (by first | exact hne | exact hne.symm) (.slice UA a.next.length uc)
          refine hK.out _ _ ?_
          (try simp only [Act.put, List.setIfInBounds_toArray, List.set_cons_zero, List.set_cons_succ])
          clear hA hP h10 h11 Kh10 Zh10 hx0
          generalize w23.setCell ⟨g10, 0, none⟩ (.slice UA a.next.length uc) = w24 at *
          have hA := hA2; have hP := hP2; have h10 := h102; have h11 := h112; have hx0 := hx2
          clear hA2 hP2 h102 h112 hx2
          have Kh11 := h11.cell 0
          have Zh11 := h11.frozen 0
          (refine useq_last rfl rfl rfl rfl (fun K hK => ?_))
          go_simp
          have hx2 := hx0.frm (Frm.setCell w24 g11 0 (.slice RA p.next.length rc)) (fun k hk e => by have := hGh11; omega)
          have hA2 := hA.set h11 (by decide) (.slice RA p.next.length rc)
          have hP2 := hP.set h11 (by decide) (.slice RA p.next.length rc)
          have h112 : Blk (w24.setCell ⟨g11, 0, none⟩ (.slice RA p.next.length rc)) g11 138 #[.slice RA p.next.length rc] := by simpa using h11.set_ 0 (.slice RA p.next.length rc)
          have h102 := h10.far (p := ⟨g11, 0, none⟩) (by first | exact hne | exact hne.symm) (.slice RA p.next.length rc)
          refine hK.out _ _ ?_
          (try simp only [Act.put, List.setIfInBounds_toArray, List.set_cons_zero, List.set_cons_succ])
          clear hA hP h10 h11 Kh11 Zh11 hx0
          generalize w24.setCell ⟨g11, 0, none⟩ (.slice RA p.next.length rc) = w25 at *
          have hA := hA2; have hP := hP2; have h10 := h102; have h11 := h112; have hx0 := hx2
          clear hA2 hP2 h102 h112 hx2
          refine useq_nil ?_
          go_wp2_with fail
          go_meet
          exact ⟨g10, g11, UA, RA, uc, rc, rfl, rfl, hx0, h10, h11, hA, hP⟩
    · go_simp
      have hGh10 := hx0.size
      have hx1 := (Ext.refl wd).alloc (.cells #[.slice none 0 0] 138)
      replace hx0 := hx0.trans hx1
      clear hx1
      have h10 := Blk.new wd 138 #[.slice none 0 0]
      refine hK.out _ _ hx0 ?_
      (try simp only [Act.put, List.setIfInBounds_toArray, List.set_cons_zero, List.set_cons_succ])
      generalize wd.alloc (.cells #[.slice none 0 0] 138) = w20 at *
      generalize wd.heap.size = g10 at *
      refine useq_both rfl rfl rfl rfl (fun K hK => ?_) (fun K hK => ?_)
      · go_simp
        refine hK.out _ _ hx0 ?_
        (try simp only [Act.put, List.setIfInBounds_toArray, List.set_cons_zero, List.set_cons_succ])
        repeat (first | (refine useq_skip rfl rfl (by assumption) ?_; simp only [Act.put, List.setIfInBounds_toArray, List.set_cons_zero, List.set_cons_succ]) | (refine useq_pure (v := ?_) rfl rfl rfl rfl (fun X => ?_) ?_; rotate_left; (focus (go_simp <;> with_reducible rfl)); simp only [Act.put, List.setIfInBounds_toArray, List.set_cons_zero, List.set_cons_succ]) | (refine useq_read (v := ?_) rfl rfl rfl rfl (fun X hX => ?_) ?_; rotate_left; (focus (go_simp <;> with_reducible rfl)); simp only [Act.put, List.setIfInBounds_toArray, List.set_cons_zero, List.set_cons_succ]))
        refine useq_both rfl rfl rfl rfl (fun K hK => ?_) (fun K hK => ?_)
        · go_simp
          refine (hTA.out _ hx0).mono ?_
          rintro e w21 ⟨UA, uc, rfl, hA, hx1⟩
          replace hx0 := hx0.trans hx1
          replace h10 := h10.ext hx1
          clear hx1
          refine hK.out _ _ hx0 ?_
          (try simp only [Act.put, List.setIfInBounds_toArray, List.set_cons_zero, List.set_cons_succ])
          refine useq_both rfl rfl rfl rfl (fun K hK => ?_) (fun K hK => ?_)
          · go_simp
            refine (hTP.out _ hx0).mono ?_
            rintro e w22 ⟨RA, rc, rfl, hP, hx1⟩
            replace hx0 := hx0.trans hx1
            replace h10 := h10.ext hx1
            replace hA := hA.ext hx1
            clear hx1
            refine hK.out _ _ hx0 ?_
            (try simp only [Act.put, List.setIfInBounds_toArray, List.set_cons_zero, List.set_cons_succ])
            (refine useq_step rfl rfl rfl (fun K hK => ?_); go_simp)
            have hne := Nat.ne_of_lt h10.lt
            have hGh11 := hx0.size
            have hx1 := (Ext.refl w22).alloc (.cells #[.slice none 0 0] 138)
            replace hx0 := hx0.trans hx1
            replace h10 := h10.ext hx1
            replace hA := hA.ext hx1
            replace hP := hP.ext hx1
            clear hx1
            have h11 := Blk.new w22 138 #[.slice none 0 0]
            refine hK.out _ _ hx0 ?_
            (try simp only [Act.put, List.setIfInBounds_toArray, List.set_cons_zero, List.set_cons_succ])
            generalize w22.alloc (.cells #[.slice none 0 0] 138) = w23 at *
            generalize w22.heap.size = g11 at *
            have Kh10 := h10.cell 0
            have Zh10 := h10.frozen 0
            (refine useq_last rfl rfl rfl rfl (fun K hK => ?_))
            go_simp
            have hx2 := hx0.frm (Frm.setCell w23 g10 0 (.slice UA a.next.length uc)) (fun k hk e => by have := hGh10; omega)
            have hA2 := hA.set h10 (by decide) (.slice UA a.next.length uc)
            have hP2 := hP.set h10 (by decide) (.slice UA a.next.length uc)
            have h102 : Blk (w23.setCell ⟨g10, 0, none⟩ (.slice UA a.next.length uc)) g10 138 #[.slice UA a.next.length uc] := by simpa using h10.set_ 0 (.slice UA a.next.length uc)
            have h112 := h11.far (p := ⟨g10, 0, none⟩) (by first | exact hne | exact hne.symm) (.slice UA a.next.length uc)
            refine hK.out _ _ ?_
            (try simp only [Act.put, List.setIfInBounds_toArray, List.set_cons_zero, List.set_cons_succ])
            clear hA hP h10 h11 Kh10 Zh10 hx0
            generalize w23.setCell ⟨g10, 0, none⟩ (.slice UA a.next.length uc) = w24 at *
            have hA := hA2; have hP := hP2; have h10 := h102; have h11 := h112; have hx0 := hx2
            clear hA2 hP2 h102 h112 hx2
            have Kh11 := h11.cell 0
            have Zh11 := h11.frozen 0
            (refine useq_last rfl rfl rfl rfl (fun K hK => ?_))
            go_simp
            have hx2 := hx0.frm (Frm.setCell w24 g11 0 (.slice RA p.next.length rc)) (fun k hk e => by have := hGh11; omega)
            have hA2 := hA.set h11 (by decide) (.slice RA p.next.length rc)
            have hP2 := hP.set h11 (by decide) (.slice RA p.next.length rc)
            have h112 : Blk (w24.setCell ⟨g11, 0, none⟩ (.slice RA p.next.length rc)) g11 138 #[.slice RA p.next.length rc] := by simpa using h11.set_ 0 (.slice RA p.next.length rc)
            have h102 := h10.far (p := ⟨g11, 0, none⟩) (by first | exact hne | exact hne.symm) (.slice RA p.next.length rc)
            refine hK.out _ _ ?_
            (try simp only [Act.put, List.setIfInBounds_toArray, List.set_cons_zero, List.set_cons_succ])
            clear hA hP h10 h11 Kh11 Zh11 hx0
            generalize w24.setCell ⟨g11, 0, none⟩ (.slice RA p.next.length rc) = w25 at *
            have hA := hA2; have hP := hP2; have h10 := h102; have h11 := h112; have hx0 := hx2
            clear hA2 hP2 h102 h112 hx2
            refine useq_nil ?_
            go_wp2_with fail
            go_meet
            exact ⟨g10, g11, UA, RA, uc, rc, rfl, rfl, hx0, h10, h11, hA, hP⟩
          · go_simp
            have hne := Nat.ne_of_lt h10.lt
            have hGh11 := hx0.size
            have hx1 := (Ext.refl w21).alloc (.cells #[.slice none 0 0] 138)
            replace hx0 := hx0.trans hx1
            replace h10 := h10.ext hx1
            replace hA := hA.ext hx1
            clear hx1
            have h11 := Blk.new w21 138 #[.slice none 0 0]
            refine hK.out _ _ hx0 ?_
            (try simp only [Act.put, List.setIfInBounds_toArray, List.set_cons_zero, List.set_cons_succ])
            generalize w21.alloc (.cells #[.slice none 0 0] 138) = w22 at *
            generalize w21.heap.size = g11 at *
            (refine useq_last rfl rfl rfl rfl (fun K hK => ?_))
            go_simp
            refine (hTP.out _ hx0).mono ?_
            rintro e w23 ⟨RA, rc, rfl, hP, hx1⟩
            replace hx0 := hx0.trans hx1
            replace h10 := h10.ext hx1
            replace h11 := h11.ext hx1
            replace hA := hA.ext hx1
            clear hx1
            refine hK.out _ _ ?_
            (try simp only [Act.put, List.setIfInBounds_toArray, List.set_cons_zero, List.set_cons_succ])
            have Kh10 := h10.cell 0
            have Zh10 := h10.frozen 0
            (refine useq_last rfl rfl rfl rfl (fun K hK => ?_))
            go_simp
            have hx2 := hx0.frm (Frm.setCell w23 g10 0 (.slice UA a.next.length uc)) (fun k hk e => by have := hGh10; omega)
            have hA2 := hA.set h10 (by decide) (.slice UA a.next.length uc)
            have hP2 := hP.set h10 (by decide) (.slice UA a.next.length uc)
            have h102 : Blk (w23.setCell ⟨g10, 0, none⟩ (.slice UA a.next.length uc)) g10 138 #[.slice UA a.next.length uc] := by simpa using h10.set_ 0 (.slice UA a.next.length uc)
            have h112 := h11.far (p := ⟨g10, 0, none⟩) (by first | exact hne | exact hne.symm) (.slice UA a.next.length uc)
            refine hK.out _ _ ?_
            (try simp only [Act.put, List.setIfInBounds_toArray, List.set_cons_zero, List.set_cons_succ])
            clear hA hP h10 h11 Kh10 Zh10 hx0
            generalize w23.setCell ⟨g10, 0, none⟩ (.slice UA a.next.length uc) = w24 at *
            have hA := hA2; have hP := hP2; have h10 := h102; have h11 := h112; have hx0 := hx2
            clear hA2 hP2 h102 h112 hx2
            have Kh11 := h11.cell 0
            have Zh11 := h11.frozen 0
            (refine useq_last rfl rfl rfl rfl (fun K hK => ?_))
            go_simp
            have hx2 := hx0.frm (Frm.setCell w24 g11 0 (.slice RA p.next.length rc)) (fun k hk e => by have := hGh11; omega)
            have hA2 := hA.set h11 (by decide) (.slice RA p.next.length rc)
            have hP2 := hP.set h11 (by decide) (.slice RA p.next.length rc)
            have h112 : Blk (w24.setCell ⟨g11, 0, none⟩ (.slice RA p.next.length rc)) g11 138 #[.slice RA p.next.length rc] := by simpa using h11.set_ 0 (.slice RA p.next.length rc)
            have h102 := h10.far (p := ⟨g11, 0, none⟩) (by first | exact hne | exact hne.symm) (.slice RA p.next.length rc)
            refine hK.out _ _ ?_
            (try simp only [Act.put, List.setIfInBounds_toArray, List.set_cons_zero, List.set_cons_succ])
            clear hA hP h10 h11 Kh11 Zh11 hx0
            generalize w24.setCell ⟨g11, 0, none⟩ (.slice RA p.next.length rc) = w25 at *
            have hA := hA2; have hP := hP2; have h10 := h102; have h11 := h112; have hx0 := hx2
            clear hA2 hP2 h102 h112 hx2
            refine useq_nil ?_
            go_wp2_with fail
            go_meet
            exact ⟨g10, g11, UA, RA, uc, rc, rfl, rfl, hx0, h10, h11, hA, hP⟩
        · go_simp
          have hne := Nat.ne_of_lt h10.lt
          have hGh11 := hx0.size
          have hx1 := (Ext.refl w20).alloc (.cells #[.slice none 0 0] 138)
          replace hx0 := hx0.trans hx1
          replace h10 := h10.ext hx1
          clear hx1
          have h11 := Blk.new w20 138 #[.slice none 0 0]
          refine hK.out _ _ hx0 ?_
          (try simp only [Act.put, List.setIfInBounds_toArray, List.set_cons_zero, List.set_cons_succ])
          generalize w20.alloc (.cells #[.slice none 0 0] 138) = w21 at *
          generalize w20.heap.size = g11 at *
          (refine useq_step rfl rfl rfl (fun K hK => ?_); go_simp)
          refine (hTA.out _ hx0).mono ?_
          rintro e w22 ⟨UA, uc, rfl, hA, hx1⟩
          replace hx0 := hx0.trans hx1
          replace h10 := h10.ext hx1
          replace h11 := h11.ext hx1
          clear hx1
          refine hK.out _ _ hx0 ?_
          (try simp only [Act.put, List.setIfInBounds_toArray, List.set_cons_zero, List.set_cons_succ])
          (refine useq_last rfl rfl rfl rfl (fun K hK => ?_))
          go_simp
          refine (hTP.out _ hx0).mono ?_
          rintro e w23 ⟨RA, rc, rfl, hP, hx1⟩
          replace hx0 := hx0.trans hx1
          replace h10 := h10.ext hx1
          replace h11 := h11.ext hx1
          replace hA := hA.ext hx1
          clear hx1
          refine hK.out _ _ ?_
          (try simp only [Act.put, List.setIfInBounds_toArray, List.set_cons_zero, List.set_cons_succ])
          have Kh10 := h10.cell 0
          have Zh10 := h10.frozen 0
          (refine useq_last rfl rfl rfl rfl (fun K hK => ?_))
          go_simp
          have hx2 := hx0.frm (Frm.setCell w23 g10 0 (.slice UA a.next.length uc)) (fun k hk e => by have := hGh10; omega)
          have hA2 := hA.set h10 (by decide) (.slice UA a.next.length uc)
          have hP2 := hP.set h10 (by decide) (.slice UA a.next.length uc)
          have h102 : Blk (w23.setCell ⟨g10, 0, none⟩ (.slice UA a.next.length uc)) g10 138 #[.slice UA a.next.length uc] := by simpa using h10.set_ 0 (.slice UA a.next.length uc)
          have h112 := h11.far (p := ⟨g10, 0, none⟩) (by first | exact hne | exact hne.symm) (.slice UA a.next.length uc)
          refine hK.out _ _ ?_
          (try simp only [Act.put, List.setIfInBounds_toArray, List.set_cons_zero, List.set_cons_succ])
          clear hA hP h10 h11 Kh10 Zh10 hx0
          generalize w23.setCell ⟨g10, 0, none⟩ (.slice UA a.next.length uc) = w24 at *
          have hA := hA2; have hP := hP2; have h10 := h102; have h11 := h112; have hx0 := hx2
          clear hA2 hP2 h102 h112 hx2
          have Kh11 := h11.cell 0
          have Zh11 := h11.frozen 0
          (refine useq_last rfl rfl rfl rfl (fun K hK => ?_))
          go_simp
          have hx2 := hx0.frm (Frm.setCell w24 g11 0 (.slice RA p.next.length rc)) (fun k hk e => by have := hGh11; omega)
          have hA2 := hA.set h11 (by decide) (.slice RA p.next.length rc)
          have hP2 := hP.set h11 (by decide) (.slice RA p.next.length rc)
          have h112 : Blk (w24.setCell ⟨g11, 0, none⟩ (.slice RA p.next.length rc)) g11 138 #[.slice RA p.next.length rc] := by simpa using h11.set_ 0 (.slice RA p.next.length rc)
          have h102 := h10.far (p := ⟨g11, 0, none⟩) (by first | exact hne | exact hne.symm) (.slice RA p.next.length rc)
          refine hK.out _ _ ?_
          (try simp only [Act.put, List.setIfInBounds_toArray, List.set_cons_zero, List.set_cons_succ])
          clear hA hP h10 h11 Kh11 Zh11 hx0
          generalize w24.setCell ⟨g11, 0, none⟩ (.slice RA p.next.length rc) = w25 at *
          have hA := hA2; have hP := hP2; have h10 := h102; have h11 := h112; have hx0 := hx2
          clear hA2 hP2 h102 h112 hx2
          refine useq_nil ?_
          go_wp2_with fail
          go_meet
          exact ⟨g10, g11, UA, RA, uc, rc, rfl, rfl, hx0, h10, h11, hA, hP⟩
      · go_simp
        have hne := Nat.ne_of_lt h10.lt
        have hGh11 := hx0.size
        have hx1 := (Ext.refl w20).alloc (.cells #[.slice none 0 0] 138)
        replace hx0 := hx0.trans hx1
        replace h10 := h10.ext hx1
        clear hx1
        have h11 := Blk.new w20 138 #[.slice none 0 0]
        refine hK.out _ _ hx0 ?_
        (try simp only [Act.put, List.setIfInBounds_toArray, List.set_cons_zero, List.set_cons_succ])
        generalize w20.alloc (.cells #[.slice none 0 0] 138) = w21 at *
        generalize w20.heap.size = g11 at *
        (refine useq_step rfl rfl rfl (fun K hK => ?_); go_simp)
        refine hK.out _ _ hx0 ?_
        (try simp only [Act.put, List.setIfInBounds_toArray, List.set_cons_zero, List.set_cons_succ])
        repeat (first | (refine useq_skip rfl rfl (by assumption) ?_; simp only [Act.put, List.setIfInBounds_toArray, List.set_cons_zero, List.set_cons_succ]) | (refine useq_pure (v := ?_) rfl rfl rfl rfl (fun X => ?_) ?_; rotate_left; (focus (go_simp <;> with_reducible rfl)); simp only [Act.put, List.setIfInBounds_toArray, List.set_cons_zero, List.set_cons_succ]) | (refine useq_read (v := ?_) rfl rfl rfl rfl (fun X hX => ?_) ?_; rotate_left; (focus (go_simp <;> with_reducible rfl)); simp only [Act.put, List.setIfInBounds_toArray, List.set_cons_zero, List.set_cons_succ]))
        (refine useq_step rfl rfl rfl (fun K hK => ?_); go_simp)
        refine (hTA.out _ hx0).mono ?_
        rintro e w22 ⟨UA, uc, rfl, hA, hx1⟩
        replace hx0 := hx0.trans hx1
        replace h10 := h10.ext hx1
        replace h11 := h11.ext hx1
        clear hx1
        refine hK.out _ _ hx0 ?_
        (try simp only [Act.put, List.setIfInBounds_toArray, List.set_cons_zero, List.set_cons_succ])
        (refine useq_last rfl rfl rfl rfl (fun K hK => ?_))
        go_simp
        refine (hTP.out _ hx0).mono ?_
        rintro e w23 ⟨RA, rc, rfl, hP, hx1⟩
        replace hx0 := hx0.trans hx1
        replace h10 := h10.ext hx1
        replace h11 := h11.ext hx1
        replace hA := hA.ext hx1
        clear hx1
        refine hK.out _ _ ?_
        (try simp only [Act.put, List.setIfInBounds_toArray, List.set_cons_zero, List.set_cons_succ])
        have Kh10 := h10.cell 0
        have Zh10 := h10.frozen 0
        (refine useq_last rfl rfl rfl rfl (fun K hK => ?_))
        go_simp
        have hx2 := hx0.frm (Frm.setCell w23 g10 0 (.slice UA a.next.length uc)) (fun k hk e => by have := hGh10; omega)
        have hA2 := hA.set h10 (by decide) (.slice UA a.next.length uc)
        have hP2 := hP.set h10 (by decide) (.slice UA a.next.length uc)
        have h102 : Blk (w23.setCell ⟨g10, 0, none⟩ (.slice UA a.next.length uc)) g10 138 #[.slice UA a.next.length uc] := by simpa using h10.set_ 0 (.slice UA a.next.length uc)
        have h112 := h11.far (p := ⟨g10, 0, none⟩) (by first | exact hne | exact hne.symm) (.slice UA a.next.length uc)
        refine hK.out _ _ ?_
        (try simp only [Act.put, List.setIfInBounds_toArray, List.set_cons_zero, List.set_cons_succ])
        clear hA hP h10 h11 Kh10 Zh10 hx0
        generalize w23.setCell ⟨g10, 0, none⟩ (.slice UA a.next.length uc) = w24 at *
        have hA := hA2; have hP := hP2; have h10 := h102; have h11 := h112; have hx0 := hx2
        clear hA2 hP2 h102 h112 hx2
        have Kh11 := h11.cell 0
        have Zh11 := h11.frozen 0
        (refine useq_last rfl rfl rfl rfl (fun K hK => ?_))
        go_simp
        have hx2 := hx0.frm (Frm.setCell w24 g11 0 (.slice RA p.next.length rc)) (fun k hk e => by have := hGh11; omega)
        have hA2 := hA.set h11 (by decide) (.slice RA p.next.length rc)
        have hP2 := hP.set h11 (by decide) (.slice RA p.next.length rc)
        have h112 : Blk (w24.setCell ⟨g11, 0, none⟩ (.slice RA p.next.length rc)) g11 138 #[.slice RA p.next.length rc] := by simpa using h11.set_ 0 (.slice RA p.next.length rc)
        have h102 := h10.far (p := ⟨g11, 0, none⟩) (by first | exact hne | exact hne.symm) (.slice RA p.next.length rc)
        refine hK.out _ _ ?_
        (try simp only [Act.put, List.setIfInBounds_toArray, List.set_cons_zero, List.set_cons_succ])
        clear hA hP h10 h11 Kh11 Zh11 hx0
        generalize w24.setCell ⟨g11, 0, none⟩ (.slice RA p.next.length rc) = w25 at *
        have hA := hA2; have hP := hP2; have h10 := h102; have h11 := h112; have hx0 := hx2
        clear hA2 hP2 h102 h112 hx2
        refine useq_nil ?_
        go_wp2_with fail
        go_meet
        exact ⟨g10, g11, UA, RA, uc, rc, rfl, rfl, hx0, h10, h11, hA, hP⟩
    · go_simp
      have hGh11 := hx0.size
      have hx1 := (Ext.refl wd).alloc (.cells #[.slice none 0 0] 138)
      replace hx0 := hx0.trans hx1
      clear hx1
      have h11 := Blk.new wd 138 #[.slice none 0 0]
      refine hK.out _ _ hx0 ?_
      (try simp only [Act.put, List.setIfInBounds_toArray, List.set_cons_zero, List.set_cons_succ])
      generalize wd.alloc (.cells #[.slice none 0 0] 138) = w20 at *
      generalize wd.heap.size = g11 at *
      refine useq_both rfl rfl rfl rfl (fun K hK => ?_) (fun K hK => ?_)
      · go_simp
        refine hK.out _ _ hx0 ?_
        (try simp only [Act.put, List.setIfInBounds_toArray, List.set_cons_zero, List.set_cons_succ])
        repeat (first | (refine useq_skip rfl rfl (by assumption) ?_; simp only [Act.put, List.setIfInBounds_toArray, List.set_cons_zero, List.set_cons_succ]) | (refine useq_pure (v := ?_) rfl rfl rfl rfl (fun X => ?_) ?_; rotate_left; (focus (go_simp <;> with_reducible rfl)); simp only [Act.put, List.setIfInBounds_toArray, List.set_cons_zero, List.set_cons_succ]) | (refine useq_read (v := ?_) rfl rfl rfl rfl (fun X hX => ?_) ?_; rotate_left; (focus (go_simp <;> with_reducible rfl)); simp only [Act.put, List.setIfInBounds_toArray, List.set_cons_zero, List.set_cons_succ]))
        refine useq_both rfl rfl rfl rfl (fun K hK => ?_) (fun K hK => ?_)
        · go_simp
          refine (hTA.out _ hx0).mono ?_
          rintro e w21 ⟨UA, uc, rfl, hA, hx1⟩
          replace hx0 := hx0.trans hx1
          replace h11 := h11.ext hx1
          clear hx1
          refine hK.out _ _ hx0 ?_
          (try simp only [Act.put, List.setIfInBounds_toArray, List.set_cons_zero, List.set_cons_succ])
          refine useq_both rfl rfl rfl rfl (fun K hK => ?_) (fun K hK => ?_)
          · go_simp
            refine (hTP.out _ hx0).mono ?_
            rintro e w22 ⟨RA, rc, rfl, hP, hx1⟩
            replace hx0 := hx0.trans hx1
            replace h11 := h11.ext hx1
            replace hA := hA.ext hx1
            clear hx1
            refine hK.out _ _ hx0 ?_
            (try simp only [Act.put, List.setIfInBounds_toArray, List.set_cons_zero, List.set_cons_succ])
            (refine useq_step rfl rfl rfl (fun K hK => ?_); go_simp)
            have hne := Nat.ne_of_lt h11.lt
            have hGh10 := hx0.size
            have hx1 := (Ext.refl w22).alloc (.cells #[.slice none 0 0] 138)
            replace hx0 := hx0.trans hx1
            replace h11 := h11.ext hx1
            replace hA := hA.ext hx1
            replace hP := hP.ext hx1
            clear hx1
            have h10 := Blk.new w22 138 #[.slice none 0 0]
            refine hK.out _ _ hx0 ?_
            (try simp only [Act.put, List.setIfInBounds_toArray, List.set_cons_zero, List.set_cons_succ])
            generalize w22.alloc (.cells #[.slice none 0 0] 138) = w23 at *
            generalize w22.heap.size = g10 at *
            have Kh10 := h10.cell 0
            have Zh10 := h10.frozen 0
            (refine useq_last rfl rfl rfl rfl (fun K hK => ?_))
            go_simp
            have hx2 := hx0.frm (Frm.setCell w23 g10 0 (.slice UA a.next.length uc)) (fun k hk e => by have := hGh10; omega)
            have hA2 := hA.set h10 (by decide) (.slice UA a.next.length uc)
            have hP2 := hP.set h10 (by decide) (.slice UA a.next.length uc)
            have h102 : Blk (w23.setCell ⟨g10, 0, none⟩ (.slice UA a.next.length uc)) g10 138 #[.slice UA a.next.length uc] := by simpa using h10.set_ 0 (.slice UA a.next.length uc)
            have h112 := h11.far (p := ⟨g10, 0, none⟩) (by first | exact hne | exact hne.symm) (.slice UA a.next.length uc)
            refine hK.out _ _ ?_
            (try simp only [Act.put, List.setIfInBounds_toArray, List.set_cons_zero, List.set_cons_succ])
            clear hA hP h10 h11 Kh10 Zh10 hx0
            generalize w23.setCell ⟨g10, 0, none⟩ (.slice UA a.next.length uc) = w24 at *
            have hA := hA2; have hP := hP2; have h10 := h102; have h11 := h112; have hx0 := hx2
            clear hA2 hP2 h102 h112 hx2
            have Kh11 := h11.cell 0
            have Zh11 := h11.frozen 0
            (refine useq_last rfl rfl rfl rfl (fun K hK => ?_))
            go_simp
            have hx2 := hx0.frm (Frm.setCell w24 g11 0 (.slice RA p.next.length rc)) (fun k hk e => by have := hGh11; omega)
            have hA2 := hA.set h11 (by decide) (.slice RA p.next.length rc)
            have hP2 := hP.set h11 (by decide) (.slice RA p.next.length rc)
            have h112 : Blk (w24.setCell ⟨g11, 0, none⟩ (.slice RA p.next.length rc)) g11 138 #[.slice RA p.next.length rc] := by simpa using h11.set_ 0 (.slice RA p.next.length rc)
            have h102 := h10.far (p := ⟨g11, 0, none⟩) (by first | exact hne | exact hne.symm) (.slice RA p.next.length rc)
            refine hK.out _ _ ?_
            (try simp only [Act.put, List.setIfInBounds_toArray, List.set_cons_zero, List.set_cons_succ])
            clear hA hP h10 h11 Kh11 Zh11 hx0
            generalize w24.setCell ⟨g11, 0, none⟩ (.slice RA p.next.length rc) = w25 at *
            have hA := hA2; have hP := hP2; have h10 := h102; have h11 := h112; have hx0 := hx2
            clear hA2 hP2 h102 h112 hx2
            refine useq_nil ?_
            go_wp2_with fail
            go_meet
            exact ⟨g10, g11, UA, RA, uc, rc, rfl, rfl, hx0, h10, h11, hA, hP⟩
          · go_simp
            have hne := Nat.ne_of_lt h11.lt
            have hGh10 := hx0.size
            have hx1 := (Ext.refl w21).alloc (.cells #[.slice none 0 0] 138)
            replace hx0 := hx0.trans hx1
            replace h11 := h11.ext hx1
            replace hA := hA.ext hx1
            clear hx1
            have h10 := Blk.new w21 138 #[.slice none 0 0]
            refine hK.out _ _ hx0 ?_
            (try simp only [Act.put, List.setIfInBounds_toArray, List.set_cons_zero, List.set_cons_succ])
            generalize w21.alloc (.cells #[.slice none 0 0] 138) = w22 at *
            generalize w21.heap.size = g10 at *
            (refine useq_last rfl rfl rfl rfl (fun K hK => ?_))
            go_simp
            refine (hTP.out _ hx0).mono ?_
            rintro e w23 ⟨RA, rc, rfl, hP, hx1⟩
            replace hx0 := hx0.trans hx1
            replace h10 := h10.ext hx1
            replace h11 := h11.ext hx1
            replace hA := hA.ext hx1
            clear hx1
            refine hK.out _ _ ?_
            (try simp only [Act.put, List.setIfInBounds_toArray, List.set_cons_zero, List.set_cons_succ])
            have Kh10 := h10.cell 0
            have Zh10 := h10.frozen 0
            (refine useq_last rfl rfl rfl rfl (fun K hK => ?_))
            go_simp
            have hx2 := hx0.frm (Frm.setCell w23 g10 0 (.slice UA a.next.length uc)) (fun k hk e => by have := hGh10; omega)
            have hA2 := hA.set h10 (by decide) (.slice UA a.next.length uc)
            have hP2 := hP.set h10 (by decide) (.slice UA a.next.length uc)
            have h102 : Blk (w23.setCell ⟨g10, 0, none⟩ (.slice UA a.next.length uc)) g10 138 #[.slice UA a.next.length uc] := by simpa using h10.set_ 0 (.slice UA a.next.length uc)
            have h112 := h11.far (p := ⟨g10, 0, none⟩) (by first | exact hne | exact hne.symm) (.slice UA a.next.length uc)
            refine hK.out _ _ ?_
            (try simp only [Act.put, List.setIfInBounds_toArray, List.set_cons_zero, List.set_cons_succ])
            clear hA hP h10 h11 Kh10 Zh10 hx0
            generalize w23.setCell ⟨g10, 0, none⟩ (.slice UA a.next.length uc) = w24 at *
            have hA := hA2; have hP := hP2; have h10 := h102; have h11 := h112; have hx0 := hx2
            clear hA2 hP2 h102 h112 hx2
            have Kh11 := h11.cell 0
            have Zh11 := h11.frozen 0
            (refine useq_last rfl rfl rfl rfl (fun K hK => ?_))
            go_simp
            have hx2 := hx0.frm (Frm.setCell w24 g11 0 (.slice RA p.next.length rc)) (fun k hk e => by have := hGh11; omega)
            have hA2 := hA.set h11 (by decide) (.slice RA p.next.length rc)
            have hP2 := hP.set h11 (by decide) (.slice RA p.next.length rc)
            have h112 : Blk (w24.setCell ⟨g11, 0, none⟩ (.slice RA p.next.length rc)) g11 138 #[.slice RA p.next.length rc] := by simpa using h11.set_ 0 (.slice RA p.next.length rc)
            have h102 := h10.far (p := ⟨g11, 0, none⟩) (by first | exact hne | exact hne.symm) (.slice RA p.next.length rc)
            refine hK.out _ _ ?_
            (try simp only [Act.put, List.setIfInBounds_toArray, List.set_cons_zero, List.set_cons_succ])
            clear hA hP h10 h11 Kh11 Zh11 hx0
            generalize w24.setCell ⟨g11, 0, none⟩ (.slice RA p.next.length rc) = w25 at *
            have hA := hA2; have hP := hP2; have h10 := h102; have h11 := h112; have hx0 := hx2
            clear hA2 hP2 h102 h112 hx2
            refine useq_nil ?_
            go_wp2_with fail
            go_meet
            exact ⟨g10, g11, UA, RA, uc, rc, rfl, rfl, hx0, h10, h11, hA, hP⟩
        · go_simp
          have hne := Nat.ne_of_lt h11.lt
          have hGh10 := hx0.size
          have hx1 := (Ext.refl w20).alloc (.cells #[.slice none 0 0] 138)
          replace hx0 := hx0.trans hx1
          replace h11 := h11.ext hx1
          clear hx1
          have h10 := Blk.new w20 138 #[.slice none 0 0]
          refine hK.out _ _ hx0 ?_
          (try simp only [Act.put, List.setIfInBounds_toArray, List.set_cons_zero, List.set_cons_succ])
          generalize w20.alloc (.cells #[.slice none 0 0] 138) = w21 at *
          generalize w20.heap.size = g10 at *
          (refine useq_step rfl rfl rfl (fun K hK => ?_); go_simp)
          refine (hTA.out _ hx0).mono ?_
          rintro e w22 ⟨UA, uc, rfl, hA, hx1⟩
          replace hx0 := hx0.trans hx1
          replace h10 := h10.ext hx1
          replace h11 := h11.ext hx1
          clear hx1
          refine hK.out _ _ hx0 ?_
          (try simp only [Act.put, List.setIfInBounds_toArray, List.set_cons_zero, List.set_cons_succ])
          (refine useq_last rfl rfl rfl rfl (fun K hK => ?_))
          go_simp
          refine (hTP.out _ hx0).mono ?_
          rintro e w23 ⟨RA, rc, rfl, hP, hx1⟩
          replace hx0 := hx0.trans hx1
          replace h10 := h10.ext hx1
          replace h11 := h11.ext hx1
          replace hA := hA.ext hx1
          clear hx1
          refine hK.out _ _ ?_
          (try simp only [Act.put, List.setIfInBounds_toArray, List.set_cons_zero, List.set_cons_succ])
          have Kh10 := h10.cell 0
          have Zh10 := h10.frozen 0
          (refine useq_last rfl rfl rfl rfl (fun K hK => ?_))
          go_simp
          have hx2 := hx0.frm (Frm.setCell w23 g10 0 (.slice UA a.next.length uc)) (fun k hk e => by have := hGh10; omega)
          have hA2 := hA.set h10 (by decide) (.slice UA a.next.length uc)
          have hP2 := hP.set h10 (by decide) (.slice UA a.next.length uc)
          have h102 : Blk (w23.setCell ⟨g10, 0, none⟩ (.slice UA a.next.length uc)) g10 138 #[.slice UA a.next.length uc] := by simpa using h10.set_ 0 (.slice UA a.next.length uc)
          have h112 := h11.far (p := ⟨g10, 0, none⟩) (by first | exact hne | exact hne.symm) (.slice UA a.next.length uc)
          refine hK.out _ _ ?_
          (try simp only [Act.put, List.setIfInBounds_toArray, List.set_cons_zero, List.set_cons_succ])
          clear hA hP h10 h11 Kh10 Zh10 hx0
          generalize w23.setCell ⟨g10, 0, none⟩ (.slice UA a.next.length uc) = w24 at *
          have hA := hA2; have hP := hP2; have h10 := h102; have h11 := h112; have hx0 := hx2
          clear hA2 hP2 h102 h112 hx2
          have Kh11 := h11.cell 0
          have Zh11 := h11.frozen 0
          (refine useq_last rfl rfl rfl rfl (fun K hK => ?_))
          go_simp
          have hx2 := hx0.frm (Frm.setCell w24 g11 0 (.slice RA p.next.length rc)) (fun k hk e => by have := hGh11; omega)
          have hA2 := hA.set h11 (by decide) (.slice RA p.next.length rc)
          have hP2 := hP.set h11 (by decide) (.slice RA p.next.length rc)
          have h112 : Blk (w24.setCell ⟨g11, 0, none⟩ (.slice RA p.next.length rc)) g11 138 #[.slice RA p.next.length rc] := by simpa using h11.set_ 0 (.slice RA p.next.length rc)
          have h102 := h10.far (p := ⟨g11, 0, none⟩) (by first | exact hne | exact hne.symm) (.slice RA p.next.length rc)
          refine hK.out _ _ ?_
          (try simp only [Act.put, List.setIfInBounds_toArray, List.set_cons_zero, List.set_cons_succ])
          clear hA hP h10 h11 Kh11 Zh11 hx0
          generalize w24.setCell ⟨g11, 0, none⟩ (.slice RA p.next.length rc) = w25 at *
          have hA := hA2; have hP := hP2; have h10 := h102; have h11 := h112; have hx0 := hx2
          clear hA2 hP2 h102 h112 hx2
          refine useq_nil ?_
          go_wp2_with fail
          go_meet
          exact ⟨g10, g11, UA, RA, uc, rc, rfl, rfl, hx0, h10, h11, hA, hP⟩
      · go_simp
        have hne := Nat.ne_of_lt h11.lt
        have hGh10 := hx0.size
        have hx1 := (Ext.refl w20).alloc (.cells #[.slice none 0 0] 138)
        replace hx0 := hx0.trans hx1
        replace h11 := h11.ext hx1
        clear hx1
        have h10 := Blk.new w20 138 #[.slice none 0 0]
        refine hK.out _ _ hx0 ?_
        (try simp only [Act.put, List.setIfInBounds_toArray, List.set_cons_zero, List.set_cons_succ])
        generalize w20.alloc (.cells #[.slice none 0 0] 138) = w21 at *
        generalize w20.heap.size = g10 at *
        (refine useq_step rfl rfl rfl (fun K hK => ?_); go_simp)
        refine hK.out _ _ hx0 ?_
        (try simp only [Act.put, List.setIfInBounds_toArray, List.set_cons_zero, List.set_cons_succ])
        repeat (first | (refine useq_skip rfl rfl (by assumption) ?_; simp only [Act.put, List.setIfInBounds_toArray, List.set_cons_zero, List.set_cons_succ]) | (refine useq_pure (v := ?_) rfl rfl rfl rfl (fun X => ?_) ?_; rotate_left; (focus (go_simp <;> with_reducible rfl)); simp only [Act.put, List.setIfInBounds_toArray, List.set_cons_zero, List.set_cons_succ]) | (refine useq_read (v := ?_) rfl rfl rfl rfl (fun X hX => ?_) ?_; rotate_left; (focus (go_simp <;> with_reducible rfl)); simp only [Act.put, List.setIfInBounds_toArray, List.set_cons_zero, List.set_cons_succ]))
        (refine useq_step rfl rfl rfl (fun K hK => ?_); go_simp)
        refine (hTA.out _ hx0).mono ?_
        rintro e w22 ⟨UA, uc, rfl, hA, hx1⟩
        replace hx0 := hx0.trans hx1
        replace h10 := h10.ext hx1
        replace h11 := h11.ext hx1
        clear hx1
        refine hK.out _ _ hx0 ?_
        (try simp only [Act.put, List.setIfInBounds_toArray, List.set_cons_zero, List.set_cons_succ])
        (refine useq_last rfl rfl rfl rfl (fun K hK => ?_))
        go_simp
        refine (hTP.out _ hx0).mono ?_
        rintro e w23 ⟨RA, rc, rfl, hP, hx1⟩
        replace hx0 := hx0.trans hx1
        replace h10 := h10.ext hx1
        replace h11 := h11.ext hx1
        replace hA := hA.ext hx1
        clear hx1
        refine hK.out _ _ ?_
        (try simp only [Act.put, List.setIfInBounds_toArray, List.set_cons_zero, List.set_cons_succ])
        have Kh10 := h10.cell 0
        have Zh10 := h10.frozen 0
        (refine useq_last rfl rfl rfl rfl (fun K hK => ?_))
        go_simp
        have hx2 := hx0.frm (Frm.setCell w23 g10 0 (.slice UA a.next.length uc)) (fun k hk e => by have := hGh10; omega)
        have hA2 := hA.set h10 (by decide) (.slice UA a.next.length uc)
        have hP2 := hP.set h10 (by decide) (.slice UA a.next.length uc)
        have h102 : Blk (w23.setCell ⟨g10, 0, none⟩ (.slice UA a.next.length uc)) g10 138 #[.slice UA a.next.length uc] := by simpa using h10.set_ 0 (.slice UA a.next.length uc)
        have h112 := h11.far (p := ⟨g10, 0, none⟩) (by first | exact hne | exact hne.symm) (.slice UA a.next.length uc)
        refine hK.out _ _ ?_
        (try simp only [Act.put, List.setIfInBounds_toArray, List.set_cons_zero, List.set_cons_succ])
        clear hA hP h10 h11 Kh10 Zh10 hx0
        generalize w23.setCell ⟨g10, 0, none⟩ (.slice UA a.next.length uc) = w24 at *
        have hA := hA2; have hP := hP2; have h10 := h102; have h11 := h112; have hx0 := hx2
        clear hA2 hP2 h102 h112 hx2
        have Kh11 := h11.cell 0
        have Zh11 := h11.frozen 0
        (refine useq_last rfl rfl rfl rfl (fun K hK => ?_))
        go_simp
        have hx2 := hx0.frm (Frm.setCell w24 g11 0 (.slice RA p.next.length rc)) (fun k hk e => by have := hGh11; omega)
        have hA2 := hA.set h11 (by decide) (.slice RA p.next.length rc)
        have hP2 := hP.set h11 (by decide) (.slice RA p.next.length rc)
        have h112 : Blk (w24.setCell ⟨g11, 0, none⟩ (.slice RA p.next.length rc)) g11 138 #[.slice RA p.next.length rc] := by simpa using h11.set_ 0 (.slice RA p.next.length rc)
        have h102 := h10.far (p := ⟨g11, 0, none⟩) (by first | exact hne | exact hne.symm) (.slice RA p.next.length rc)
        refine hK.out _ _ ?_
        (try simp only [Act.put, List.setIfInBounds_toArray, List.set_cons_zero, List.set_cons_succ])
        clear hA hP h10 h11 Kh11 Zh11 hx0
        generalize w24.setCell ⟨g11, 0, none⟩ (.slice RA p.next.length rc) = w25 at *
        have hA := hA2; have hP := hP2; have h10 := h102; have h11 := h112; have hx0 := hx2
        clear hA2 hP2 h102 h112 hx2
        refine useq_nil ?_
        go_wp2_with fail
        go_meet
        exact ⟨g10, g11, UA, RA, uc, rc, rfl, rfl, hx0, h10, h11, hA, hP⟩
  case rest =>
    obtain ⟨g10, g11, UA, RA, uc, rc, rfl, rfl, hx6, h10, h11, hA, hP⟩ := hcut
    have hH10 := hide (fun W (hW : Ext wc W) => h10.ext hW)
    have hH11 := hide (fun W (hW : Ext wc W) => h11.ext hW)
    have hw6 := hw5.trans hx6
    go_upto_region 6 with fail
    go_cut [12, 13] (fun v12 v13 wx => ∃ (g12 g13 : Nat), v12 = .pointer (some ⟨g12, 0, none⟩) ∧ v13 = .pointer (some ⟨g13, 0, none⟩) ∧ Ext wc wx ∧ Blk wx g12 3 #[.int .i64 (a.next.length : Nat)] ∧ Blk wx g13 3 #[.int .i64 (p.next.length : Nat)])
    case first =>
      have c10 : ∀ W, Ext wc W → W.cell? ⟨g10, 0, none⟩ = some (.slice UA a.next.length uc) := fun W hW => by rw [(hH10.out W hW).cell]; rfl
      have c11 : ∀ W, Ext wc W → W.cell? ⟨g11, 0, none⟩ = some (.slice RA p.next.length rc) := fun W hW => by rw [(hH11.out W hW).cell]; rfl
      have hww := Ext.refl wc
      clear h10 h11 hA hP
      refine wp_region_tailU (fun X => Ext wc X) [7] (OrdU.app [0, 1, 2, 3] (OrdU.two 4 (OrdU.of [5, 6, 7]) 5 (OrdU.of [4, 6, 7]))) (by kernel_rfl) (by kernel_rfl) (by kernel_rfl) (by kernel_rfl) (by kernel_rfl) (fun _ _ _ _ _ h => h) (by first | assumption | exact (Ext.refl _).drew | (refine Ext.drew ?_; assumption)) ?_
      repeat (first | (refine useq_skip rfl rfl (by assumption) ?_; simp only [Act.put, List.setIfInBounds_toArray, List.set_cons_zero, List.set_cons_succ]) | (refine useq_pure (v := ?_) rfl rfl rfl rfl (fun X => ?_) ?_; rotate_left; (focus (go_simp <;> with_reducible rfl)); simp only [Act.put, List.setIfInBounds_toArray, List.set_cons_zero, List.set_cons_succ]) | (refine useq_read (v := ?_) rfl rfl rfl rfl (fun X hX => ?_) ?_; rotate_left; (focus (go_simp <;> with_reducible rfl)); simp only [Act.put, List.setIfInBounds_toArray, List.set_cons_zero, List.set_cons_succ]))
      have hx0 : Ext wc wc.drew := hww.drew
      generalize wc.drew = wd at *
      repeat (first | (refine useq_skip rfl rfl (by assumption) ?_; simp only [Act.put, List.setIfInBounds_toArray, List.set_cons_zero, List.set_cons_succ]) | (refine useq_pure (v := ?_) rfl rfl rfl rfl (fun X => ?_) ?_; rotate_left; (focus (go_simp <;> with_reducible rfl)); simp only [Act.put, List.setIfInBounds_toArray, List.set_cons_zero, List.set_cons_succ]) | (refine useq_read (v := ?_) rfl rfl rfl rfl (fun X hX => ?_) ?_; rotate_left; (focus (go_simp <;> with_reducible rfl)); simp only [Act.put, List.setIfInBounds_toArray, List.set_cons_zero, List.set_cons_succ]))
      refine useq_both rfl rfl rfl rfl (fun K hK => ?_) (fun K hK => ?_)
      · go_simp
        have hGh12 := hx0.size
        have hx1 := (Ext.refl wd).alloc (.cells #[.int .i64 0] 3)
        replace hx0 := hx0.trans hx1
        clear hx1
        have h12 := Blk.new wd 3 #[.int .i64 0]
        refine hK.out _ _ hx0 ?_
        (try simp only [Act.put, List.setIfInBounds_toArray, List.set_cons_zero, List.set_cons_succ])
        generalize wd.alloc (.cells #[.int .i64 0] 3) = w20 at *
        generalize wd.heap.size = g12 at *
        (refine useq_step rfl rfl rfl (fun K hK => ?_); go_simp)
        have hne := Nat.ne_of_lt h12.lt
        have hGh13 := hx0.size
        have hx1 := (Ext.refl w20).alloc (.cells #[.int .i64 0] 3)
        replace hx0 := hx0.trans hx1
        replace h12 := h12.ext hx1
        clear hx1
        have h13 := Blk.new w20 3 #[.int .i64 0]
        refine hK.out _ _ hx0 ?_
        (try simp only [Act.put, List.setIfInBounds_toArray, List.set_cons_zero, List.set_cons_succ])
        generalize w20.alloc (.cells #[.int .i64 0] 3) = w21 at *
        generalize w20.heap.size = g13 at *
        have Kh12 := h12.cell 0
        have Zh12 := h12.frozen 0
        (refine useq_step rfl rfl rfl (fun K hK => ?_); go_simp)
        have hx2 := hx0.frm (Frm.setCell w21 g12 0 (.int .i64 (a.next.length : Nat))) (fun k hk e => by have := hGh12; omega)
        have h122 : Blk (w21.setCell ⟨g12, 0, none⟩ (.int .i64 (a.next.length : Nat))) g12 3 #[.int .i64 (a.next.length : Nat)] := by simpa using h12.set_ 0 (.int .i64 (a.next.length : Nat))
        have h132 := h13.far (p := ⟨g12, 0, none⟩) (by first | exact hne | exact hne.symm) (.int .i64 (a.next.length : Nat))
        refine hK.out _ _ hx2 ?_
        (try simp only [Act.put, List.setIfInBounds_toArray, List.set_cons_zero, List.set_cons_succ])
        clear h12 h13 Kh12 Zh12 hx0
        generalize w21.setCell ⟨g12, 0, none⟩ (.int .i64 (a.next.length : Nat)) = w22 at *
        have h12 := h122; have h13 := h132; have hx0 := hx2
        clear h122 h132 hx2
        have Kh13 := h13.cell 0
        have Zh13 := h13.frozen 0
        (refine useq_last rfl rfl rfl rfl (fun K hK => ?_))
        go_simp
        have hx2 := hx0.frm (Frm.setCell w22 g13 0 (.int .i64 (p.next.length : Nat))) (fun k hk e => by have := hGh13; omega)
        have h132 : Blk (w22.setCell ⟨g13, 0, none⟩ (.int .i64 (p.next.length : Nat))) g13 3 #[.int .i64 (p.next.length : Nat)] := by simpa using h13.set_ 0 (.int .i64 (p.next.length : Nat))
        have h122 := h12.far (p := ⟨g13, 0, none⟩) (by first | exact hne | exact hne.symm) (.int .i64 (p.next.length : Nat))
        refine hK.out _ _ ?_
        (try simp only [Act.put, List.setIfInBounds_toArray, List.set_cons_zero, List.set_cons_succ])
        clear h12 h13 Kh13 Zh13 hx0
        generalize w22.setCell ⟨g13, 0, none⟩ (.int .i64 (p.next.length : Nat)) = w23 at *
        have h12 := h122; have h13 := h132; have hx0 := hx2
        clear h122 h132 hx2
        refine useq_nil ?_
        go_wp2_with fail
        go_meet
        exact ⟨g12, g13, rfl, rfl, hx0, h12, h13⟩
      · go_simp
        have hGh13 := hx0.size
        have hx1 := (Ext.refl wd).alloc (.cells #[.int .i64 0] 3)
        replace hx0 := hx0.trans hx1
        clear hx1
        have h13 := Blk.new wd 3 #[.int .i64 0]
        refine hK.out _ _ hx0 ?_
        (try simp only [Act.put, List.setIfInBounds_toArray, List.set_cons_zero, List.set_cons_succ])
        generalize wd.alloc (.cells #[.int .i64 0] 3) = w20 at *
        generalize wd.heap.size = g13 at *
        (refine useq_step rfl rfl rfl (fun K hK => ?_); go_simp)
        have hne := Nat.ne_of_lt h13.lt
        have hGh12 := hx0.size
        have hx1 := (Ext.refl w20).alloc (.cells #[.int .i64 0] 3)
        replace hx0 := hx0.trans hx1
        replace h13 := h13.ext hx1
        clear hx1
        have h12 := Blk.new w20 3 #[.int .i64 0]
        refine hK.out _ _ hx0 ?_
        (try simp only [Act.put, List.setIfInBounds_toArray, List.set_cons_zero, List.set_cons_succ])
        generalize w20.alloc (.cells #[.int .i64 0] 3) = w21 at *
        generalize w20.heap.size = g12 at *
        have Kh12 := h12.cell 0
        have Zh12 := h12.frozen 0
        (refine useq_step rfl rfl rfl (fun K hK => ?_); go_simp)
        have hx2 := hx0.frm (Frm.setCell w21 g12 0 (.int .i64 (a.next.length : Nat))) (fun k hk e => by have := hGh12; omega)
        have h122 : Blk (w21.setCell ⟨g12, 0, none⟩ (.int .i64 (a.next.length : Nat))) g12 3 #[.int .i64 (a.next.length : Nat)] := by simpa using h12.set_ 0 (.int .i64 (a.next.length : Nat))
        have h132 := h13.far (p := ⟨g12, 0, none⟩) (by first | exact hne | exact hne.symm) (.int .i64 (a.next.length : Nat))
        refine hK.out _ _ hx2 ?_
        (try simp only [Act.put, List.setIfInBounds_toArray, List.set_cons_zero, List.set_cons_succ])
        clear h12 h13 Kh12 Zh12 hx0
        generalize w21.setCell ⟨g12, 0, none⟩ (.int .i64 (a.next.length : Nat)) = w22 at *
        have h12 := h122; have h13 := h132; have hx0 := hx2
        clear h122 h132 hx2
        have Kh13 := h13.cell 0
        have Zh13 := h13.frozen 0
        (refine useq_last rfl rfl rfl rfl (fun K hK => ?_))
        go_simp
        have hx2 := hx0.frm (Frm.setCell w22 g13 0 (.int .i64 (p.next.length : Nat))) (fun k hk e => by have := hGh13; omega)
        have h132 : Blk (w22.setCell ⟨g13, 0, none⟩ (.int .i64 (p.next.length : Nat))) g13 3 #[.int .i64 (p.next.length : Nat)] := by simpa using h13.set_ 0 (.int .i64 (p.next.length : Nat))
        have h122 := h12.far (p := ⟨g13, 0, none⟩) (by first | exact hne | exact hne.symm) (.int .i64 (p.next.length : Nat))
        refine hK.out _ _ ?_
        (try simp only [Act.put, List.setIfInBounds_toArray, List.set_cons_zero, List.set_cons_succ])
        clear h12 h13 Kh13 Zh13 hx0
        generalize w22.setCell ⟨g13, 0, none⟩ (.int .i64 (p.next.length : Nat)) = w23 at *
        have h12 := h122; have h13 := h132; have hx0 := hx2
        clear h122 h132 hx2
        refine useq_nil ?_
        go_wp2_with fail
        go_meet
        exact ⟨g12, g13, rfl, rfl, hx0, h12, h13⟩
    case rest =>
      obtain ⟨g12, g13, rfl, rfl, hx7, h12, h13⟩ := hcut
      rename World => w7
      have hw9 := hw6.trans hx7
      have hC : BCaps w7 g8 g10 g11 g12 g13 A M UA RA k c dm uc rc ss a p := by
        obtain ⟨lo3, hi3, htu⟩ := hA.at_
        obtain ⟨lo4, hi4, htr⟩ := hP.at_
        exact ⟨hB8.out _ (hx6.trans hx7), h10.ext hx7, h11.ext hx7, h12, h13, ⟨_, _, _, _, hPT.out _ (hx6.trans hx7)⟩, ⟨lo3, hi3, htu.ext hx7⟩, ⟨lo4, hi4, htr.ext hx7⟩⟩
      have hGC : GCaps w7 w.heap.size ga (w.heap.size + 1) g12 g13 a p := ⟨hB4.out _ (hx6.trans hx7), ⟨B, m1, d1, B', m1', d1', lo1, hi1, HGA5.out _ (hx6.trans hx7), HA5.out _ (hx6.trans hx7)⟩, ⟨C, m2, d2, C', m2', d2', lo2, hi2, hB5.out _ (hx6.trans hx7), HP.out _ hw9⟩, h12, h13⟩
      obtain ⟨N, hN⟩ : ∃ N : Nat, Hid (prodN (mems ss [a, p]) = N) := ⟨_, rfl⟩
      obtain ⟨⟨_, n12⟩, ⟨_, m12⟩⟩ := And.intro (autValid_row Hv.out).2.1 (autValid_row Hp.out).2.1
      obtain ⟨⟨n1, _⟩, ⟨m1_, _⟩⟩ := And.intro (autValid_row Hv.out).2.1 (autValid_row Hp.out).2.1
      obtain ⟨S, hS⟩ : ∃ S : Nat, Hid (prodN (ss.map sMem) = S) := ⟨_, rfl⟩
      have hS4 : 1 ≤ S ∧ S ≤ 4096 := by
        rw [← hS.out]
        refine ⟨prodN_sys_pos hsl.out, Nat.le_trans (prodN_sys_le hsl.out) ?_⟩
        have := (HS.out w (Ext.refl _)).1
        calc 16 ^ ss.length ≤ 16 ^ 3 := Nat.pow_le_pow_right (by omega) (by omega)
          _ = 4096 := by decide
      have hNe : S * a.next.length * p.next.length = N := by
        rw [← hN.out, ← hS.out, show mems ss [a, p] = ss.map sMem ++ [aMem a, aMem p] from rfl, prodN_append]
        simp [prodN, prodS, aMem, Nat.mul_assoc]
      have hSn : S * a.next.length ≤ 4096 * 12 := Nat.mul_le_mul hS4.2 n12
      have hNle : N ≤ 4096 * 12 * 12 := by rw [← hNe]; exact Nat.mul_le_mul hSn m12
      have hN1 : 1 ≤ N := by rw [← hNe]; exact Nat.mul_pos (Nat.mul_pos hS4.1 n1) m1_
      obtain ⟨sn, hsn⟩ : ∃ z : Nat, Hid (S * a.next.length = z) := ⟨_, rfl⟩
      rw [hsn.out] at hNe hSn
      have hsni : (S : Int) * (a.next.length : Int) = (sn : Int) := by rw [← hsn.out]; exact (Int.natCast_mul S _).symm
      have hNi : (sn : Int) * (p.next.length : Int) = (N : Int) := by rw [← hNe]; exact (Int.natCast_mul sn _).symm
      have Hd := hide (show ∀ x l, x < N → l < 6 → ∀ y ∈ brkD ss a p x l, y < N from fun x l _ hl y hy => by
        rw [brkD_pnx] at hy
        rw [← hN.out]
        refine pnx_lt (fun mm hmm => ?_) hl y hy
        rcases List.mem_append.1 hmm with h1 | h1
        · obtain ⟨s, hs', rfl⟩ := List.mem_map.1 h1
          exact sMem_ok (hsl.out s hs')
        · obtain ⟨b, hb', rfl⟩ := List.mem_map.1 h1
          simp at hb'
          rcases hb' with rfl | rfl
          · exact aMem_ok Hv.out
          · exact aMem_ok Hp.out)
      have Hdl := hide (show ∀ x l, (brkD ss a p x l).length ≤ 4096 from fun x l => by
        unfold brkD
        rw [List.length_map]
        refine Nat.le_trans (nx_len hsl.out _ l) ?_
        have := (HS.out w (Ext.refl _)).1
        calc 16 ^ ss.length ≤ 16 ^ 3 := Nat.pow_le_pow_right (by omega) (by omega)
          _ = 4096 := by decide)
      have hrise := hide (letters_rise (U ||| al))
      have key := hide (fun W (hW : Ext w7 W) A1 c1 AL q' cL (hA1 : IntsAt W A1 1 [0]) (hL : IntsAt W AL q' (letters (U ||| al) 6)) => firstPath_any (w := W) (N := N) (kn := 113) (kg := 115) (m := 1) (c := c1) (cL := cL)
        (capn := #[.pointer (some ⟨g10, 0, none⟩), .pointer (some ⟨g13, 0, none⟩), .pointer (some ⟨g12, 0, none⟩), .pointer (some ⟨g11, 0, none⟩), .pointer (some ⟨g8, 0, none⟩)])
        (capg := #[.pointer (some ⟨w.heap.size, 0, none⟩), .pointer (some ⟨g13, 0, none⟩), .pointer (some ⟨g12, 0, none⟩), .pointer (some ⟨w.heap.size + 1, 0, none⟩)])
        (goal := brkG a p) (d := brkD ss a p) (D := 4096) hA1 (fun n hn => by simp at hn; omega) (by omega) hL hrise.out (by omega) (by omega) (fun args W => by kernel_rfl) (fun args W => by kernel_rfl)
        (fun W' hW' n hn => brk_goal (hGC.ext (hW.trans hW')) Hv.out Hp.out (by omega))
        (fun n l hn hl => ⟨Hdl.out n l, Hd.out n l hn (hrise.out.1 l hl)⟩)
        (fun W' hW' n l hn hl base A m c xs hb0 hb hm hown => brk_next (hC.ext hW) (HT.out _ (hw9.trans hW)) hW' hsl.out hk3 Hv.out Hp.out (by rw [hN.out]; exact hn) (hrise.out.1 l hl) hb0 hb hm hown))
      have hSZ := hide (show ∀ W, Ext w7 W → Calls Tryz.prog 117 #[.agg #[.slice A k c, .slice M k dm]] W fun e w' => e = .returned (.int .i64 (S : Nat)) ∧ Ext W w' from fun W hW => by
        have := parts_size (c := c) (dm := dm) (hPT.out W ((hx6.trans hx7).trans hW)) hsl.out hk3
        rw [hS.out] at this
        exact this)
      have hLT := hide (fun W => impl_lettersOf (U ||| al) (by have := Nat.or_lt_two_pow (n := 6) (x := U) (y := al) (by omega) (by omega); unfold Sm; omega) W)
      have hor : bits .or .i64 (U : Int) (al : Int) = ((U ||| al : Nat) : Int) := bits_or (by unfold Sm; omega) (by unfold Sm; omega)
      have c8 : ∀ W, Ext w7 W → ∀ j, W.cell? ⟨g8, j, none⟩ = #[Value.slice A k c, .slice M k dm][j]? := fun W hW => (hC.h8.ext hW).cell
      have c12 : ∀ W, Ext w7 W → W.cell? ⟨g12, 0, none⟩ = some (.int .i64 (a.next.length : Nat)) := fun W hW => by rw [(hC.h12.ext hW).cell]; rfl
      have c13 : ∀ W, Ext w7 W → W.cell? ⟨g13, 0, none⟩ = some (.int .i64 (p.next.length : Nat)) := fun W hW => by rw [(hC.h13.ext hW).cell]; rfl
      have c4 : ∀ W, Ext w7 W → W.cell? ⟨w.heap.size, 0, none⟩ = some (.pointer (some ⟨ga, 0, none⟩)) := fun W hW => by rw [(hGC.h4.ext hW).cell]; rfl
      have ca : ∀ W, Ext w7 W → ∀ j, W.cell? ⟨ga, j, none⟩ = #[Value.int .i64 (al : Nat), .slice B m1 d1, .slice B' m1' d1'][j]? := fun W hW => by
        have := (HGA5.out W ((hx6.trans hx7).trans hW)).cell
        rw [hale.out] at this
        exact this
      have hw1 : IntKind.i64.wrap (sn : Int) = (sn : Int) := wrapN sn (by omega)
      have hw2 : IntKind.i64.wrap (N : Int) = (N : Int) := wrapN N (by omega)
      have hww := Ext.refl w7
      clear hC hGC h10 h11 h12 h13 hA hP
      go_upto_region 9 with fail
      refine wp_region_tailU (fun X => Ext w7 X) [16] (OrdU.app [0, 2, 4, 7, 8, 14, 15] (OrdU.three 1 (OrdU.app [3, 5] (OrdU.two 6 (OrdU.of [9, 10, 11, 12, 13, 16, 17, 18, 19, 20]) 9 (OrdU.app [10, 11, 12] (OrdU.two 6 (OrdU.of [13, 16, 17, 18, 19, 20]) 13 (OrdU.of [6, 16, 17, 18, 19, 20]))))) 6 (OrdU.two 1 (OrdU.of [3, 5, 9, 10, 11, 12, 13, 16, 17, 18, 19, 20]) 9 (OrdU.of [10, 11, 12, 1, 3, 5, 13, 16, 17, 18, 19, 20])) 9 (OrdU.app [10, 11, 12] (OrdU.two 1 (OrdU.app [3, 5] (OrdU.two 6 (OrdU.of [13, 16, 17, 18, 19, 20]) 13 (OrdU.of [6, 16, 17, 18, 19, 20]))) 6 (OrdU.of [1, 3, 5, 13, 16, 17, 18, 19, 20]))))) (by kernel_rfl) (by kernel_rfl) (by kernel_rfl) (by kernel_rfl) (by kernel_rfl) (fun _ _ _ _ _ h => h) (by first | assumption | exact (Ext.refl _).drew | (refine Ext.drew ?_; assumption)) ?_
      repeat (first | (refine useq_skip rfl rfl (by assumption) ?_; simp only [Act.put, List.setIfInBounds_toArray, List.set_cons_zero, List.set_cons_succ]) | (refine useq_pure (v := ?_) rfl rfl rfl rfl (fun X => ?_) ?_; rotate_left; (focus (go_simp <;> with_reducible rfl)); simp only [Act.put, List.setIfInBounds_toArray, List.set_cons_zero, List.set_cons_succ]) | (refine useq_read (v := ?_) rfl rfl rfl rfl (fun X hX => ?_) ?_; rotate_left; (focus (go_simp <;> with_reducible rfl)); simp only [Act.put, List.setIfInBounds_toArray, List.set_cons_zero, List.set_cons_succ]))
      have hx0 : Ext w7 w7.drew := hww.drew
      generalize w7.drew = wd at *
      repeat (first | (refine useq_skip rfl rfl (by assumption) ?_; simp only [Act.put, List.setIfInBounds_toArray, List.set_cons_zero, List.set_cons_succ]) | (refine useq_pure (v := ?_) rfl rfl rfl rfl (fun X => ?_) ?_; rotate_left; (focus (go_simp <;> with_reducible rfl)); simp only [Act.put, List.setIfInBounds_toArray, List.set_cons_zero, List.set_cons_succ]) | (refine useq_read (v := ?_) rfl rfl rfl rfl (fun X hX => ?_) ?_; rotate_left; (focus (go_simp <;> with_reducible rfl)); simp only [Act.put, List.setIfInBounds_toArray, List.set_cons_zero, List.set_cons_succ]))
      refine useq_three rfl rfl rfl rfl rfl rfl (fun K hK => ?_) (fun K hK => ?_) (fun K hK => ?_)
      · go_simp
        refine (hSZ.out _ hx0).mono ?_
        rintro e w20 ⟨rfl, hx1⟩
        replace hx0 := hx0.trans hx1
        clear hx1
        refine hK.out _ _ hx0 ?_
        (try simp only [Act.put, List.setIfInBounds_toArray, List.set_cons_zero, List.set_cons_succ])
        repeat (first | (refine useq_skip rfl rfl (by assumption) ?_; simp only [Act.put, List.setIfInBounds_toArray, List.set_cons_zero, List.set_cons_succ]) | (refine useq_pure (v := ?_) rfl rfl rfl rfl (fun X => ?_) ?_; rotate_left; (focus (go_simp <;> with_reducible rfl)); simp only [Act.put, List.setIfInBounds_toArray, List.set_cons_zero, List.set_cons_succ]) | (refine useq_read (v := ?_) rfl rfl rfl rfl (fun X hX => ?_) ?_; rotate_left; (focus (go_simp <;> with_reducible rfl)); simp only [Act.put, List.setIfInBounds_toArray, List.set_cons_zero, List.set_cons_succ]))
        refine useq_both rfl rfl rfl rfl (fun K hK => ?_) (fun K hK => ?_)
        · go_simp
          have hI := one_at (x := 0) (Blk.new w20 3 #[.int .i64 ((0 : Nat) : Int)])
          have hx1 := (Ext.refl w20).alloc (.cells #[.int .i64 ((0 : Nat) : Int)] 3)
          replace hx0 := hx0.trans hx1
          clear hx1
          refine hK.out _ _ hx0 ?_
          (try simp only [Act.put, List.setIfInBounds_toArray, List.set_cons_zero, List.set_cons_succ])
          generalize w20.alloc (.cells #[.int .i64 ((0 : Nat) : Int)] 3) = w21 at *
          generalize w20.heap.size = g1 at *
          (refine useq_step rfl rfl rfl (fun K hK => ?_); go_simp)
          refine hK.out _ _ hx0 ?_
          (try simp only [Act.put, List.setIfInBounds_toArray, List.set_cons_zero, List.set_cons_succ])
          repeat (first | (refine useq_skip rfl rfl (by assumption) ?_; simp only [Act.put, List.setIfInBounds_toArray, List.set_cons_zero, List.set_cons_succ]) | (refine useq_pure (v := ?_) rfl rfl rfl rfl (fun X => ?_) ?_; rotate_left; (focus (go_simp <;> with_reducible rfl)); simp only [Act.put, List.setIfInBounds_toArray, List.set_cons_zero, List.set_cons_succ]) | (refine useq_read (v := ?_) rfl rfl rfl rfl (fun X hX => ?_) ?_; rotate_left; (focus (go_simp <;> with_reducible rfl)); simp only [Act.put, List.setIfInBounds_toArray, List.set_cons_zero, List.set_cons_succ]))
          (refine useq_step rfl rfl rfl (fun K hK => ?_); go_simp)
          refine (hLT.out w21).mono ?_
          rintro e w22 ⟨AL, cL, rfl, hownL, hx1⟩
          have hIL := IntsAt.own hownL
          clear hownL
          replace hx0 := hx0.trans hx1
          replace hI := hI.ext hx1
          clear hx1
          refine hK.out _ _ hx0 ?_
          (try simp only [Act.put, List.setIfInBounds_toArray, List.set_cons_zero, List.set_cons_succ])
          (refine useq_last rfl rfl rfl rfl (fun K hK => ?_))
          go_simp
          refine (key.out _ hx0 _ _ _ _ _ hI hIL).mono ?_
          rintro e w23 ⟨hx1, hcase⟩
          have hx2 := hw9.trans (hx0.trans hx1)
          rcases hcase with ⟨v, rfl, hF⟩ | ⟨rfl, hF⟩
          · have hres := hide (show RetPath w (brkD ss a p) [0] (brkG a p) (letters (U ||| al) 6) _ w23 from ⟨hx2, Or.inl ⟨v, rfl, hF⟩⟩)
            refine hK.out _ _ ?_
            (try simp only [Act.put, List.setIfInBounds_toArray, List.set_cons_zero, List.set_cons_succ])
            repeat (first | (refine useq_skip rfl rfl (by assumption) ?_; simp only [Act.put, List.setIfInBounds_toArray, List.set_cons_zero, List.set_cons_succ]) | (refine useq_pure (v := ?_) rfl rfl rfl rfl (fun X => ?_) ?_; rotate_left; (focus (go_simp <;> with_reducible rfl)); simp only [Act.put, List.setIfInBounds_toArray, List.set_cons_zero, List.set_cons_succ]) | (refine useq_read (v := ?_) rfl rfl rfl rfl (fun X hX => ?_) ?_; rotate_left; (focus (go_simp <;> with_reducible rfl)); simp only [Act.put, List.setIfInBounds_toArray, List.set_cons_zero, List.set_cons_succ]))
            refine useq_nil ?_
            go_wp2_with fail
            go_ret2
            exact hres.out
          · have hres := hide (show RetPath w (brkD ss a p) [0] (brkG a p) (letters (U ||| al) 6) _ w23 from ⟨hx2, Or.inr ⟨rfl, hF⟩⟩)
            refine hK.out _ _ ?_
            (try simp only [Act.put, List.setIfInBounds_toArray, List.set_cons_zero, List.set_cons_succ])
            repeat (first | (refine useq_skip rfl rfl (by assumption) ?_; simp only [Act.put, List.setIfInBounds_toArray, List.set_cons_zero, List.set_cons_succ]) | (refine useq_pure (v := ?_) rfl rfl rfl rfl (fun X => ?_) ?_; rotate_left; (focus (go_simp <;> with_reducible rfl)); simp only [Act.put, List.setIfInBounds_toArray, List.set_cons_zero, List.set_cons_succ]) | (refine useq_read (v := ?_) rfl rfl rfl rfl (fun X hX => ?_) ?_; rotate_left; (focus (go_simp <;> with_reducible rfl)); simp only [Act.put, List.setIfInBounds_toArray, List.set_cons_zero, List.set_cons_succ]))
            refine useq_nil ?_
            go_wp2_with fail
            go_ret2
            exact hres.out
        · go_simp
          refine hK.out _ _ hx0 ?_
          (try simp only [Act.put, List.setIfInBounds_toArray, List.set_cons_zero, List.set_cons_succ])
          repeat (first | (refine useq_skip rfl rfl (by assumption) ?_; simp only [Act.put, List.setIfInBounds_toArray, List.set_cons_zero, List.set_cons_succ]) | (refine useq_pure (v := ?_) rfl rfl rfl rfl (fun X => ?_) ?_; rotate_left; (focus (go_simp <;> with_reducible rfl)); simp only [Act.put, List.setIfInBounds_toArray, List.set_cons_zero, List.set_cons_succ]) | (refine useq_read (v := ?_) rfl rfl rfl rfl (fun X hX => ?_) ?_; rotate_left; (focus (go_simp <;> with_reducible rfl)); simp only [Act.put, List.setIfInBounds_toArray, List.set_cons_zero, List.set_cons_succ]))
          refine useq_both rfl rfl rfl rfl (fun K hK => ?_) (fun K hK => ?_)
          · go_simp
            have hI := one_at (x := 0) (Blk.new w20 3 #[.int .i64 ((0 : Nat) : Int)])
            have hx1 := (Ext.refl w20).alloc (.cells #[.int .i64 ((0 : Nat) : Int)] 3)
            replace hx0 := hx0.trans hx1
            clear hx1
            refine hK.out _ _ hx0 ?_
            (try simp only [Act.put, List.setIfInBounds_toArray, List.set_cons_zero, List.set_cons_succ])
            generalize w20.alloc (.cells #[.int .i64 ((0 : Nat) : Int)] 3) = w21 at *
            generalize w20.heap.size = g1 at *
            (refine useq_step rfl rfl rfl (fun K hK => ?_); go_simp)
            refine (hLT.out w21).mono ?_
            rintro e w22 ⟨AL, cL, rfl, hownL, hx1⟩
            have hIL := IntsAt.own hownL
            clear hownL
            replace hx0 := hx0.trans hx1
            replace hI := hI.ext hx1
            clear hx1
            refine hK.out _ _ hx0 ?_
            (try simp only [Act.put, List.setIfInBounds_toArray, List.set_cons_zero, List.set_cons_succ])
            (refine useq_last rfl rfl rfl rfl (fun K hK => ?_))
            go_simp
            refine (key.out _ hx0 _ _ _ _ _ hI hIL).mono ?_
            rintro e w23 ⟨hx1, hcase⟩
            have hx2 := hw9.trans (hx0.trans hx1)
            rcases hcase with ⟨v, rfl, hF⟩ | ⟨rfl, hF⟩
            · have hres := hide (show RetPath w (brkD ss a p) [0] (brkG a p) (letters (U ||| al) 6) _ w23 from ⟨hx2, Or.inl ⟨v, rfl, hF⟩⟩)
              refine hK.out _ _ ?_
              (try simp only [Act.put, List.setIfInBounds_toArray, List.set_cons_zero, List.set_cons_succ])
              repeat (first | (refine useq_skip rfl rfl (by assumption) ?_; simp only [Act.put, List.setIfInBounds_toArray, List.set_cons_zero, List.set_cons_succ]) | (refine useq_pure (v := ?_) rfl rfl rfl rfl (fun X => ?_) ?_; rotate_left; (focus (go_simp <;> with_reducible rfl)); simp only [Act.put, List.setIfInBounds_toArray, List.set_cons_zero, List.set_cons_succ]) | (refine useq_read (v := ?_) rfl rfl rfl rfl (fun X hX => ?_) ?_; rotate_left; (focus (go_simp <;> with_reducible rfl)); simp only [Act.put, List.setIfInBounds_toArray, List.set_cons_zero, List.set_cons_succ]))
              refine useq_nil ?_
              go_wp2_with fail
              go_ret2
              exact hres.out
            · have hres := hide (show RetPath w (brkD ss a p) [0] (brkG a p) (letters (U ||| al) 6) _ w23 from ⟨hx2, Or.inr ⟨rfl, hF⟩⟩)
              refine hK.out _ _ ?_
              (try simp only [Act.put, List.setIfInBounds_toArray, List.set_cons_zero, List.set_cons_succ])
              repeat (first | (refine useq_skip rfl rfl (by assumption) ?_; simp only [Act.put, List.setIfInBounds_toArray, List.set_cons_zero, List.set_cons_succ]) | (refine useq_pure (v := ?_) rfl rfl rfl rfl (fun X => ?_) ?_; rotate_left; (focus (go_simp <;> with_reducible rfl)); simp only [Act.put, List.setIfInBounds_toArray, List.set_cons_zero, List.set_cons_succ]) | (refine useq_read (v := ?_) rfl rfl rfl rfl (fun X hX => ?_) ?_; rotate_left; (focus (go_simp <;> with_reducible rfl)); simp only [Act.put, List.setIfInBounds_toArray, List.set_cons_zero, List.set_cons_succ]))
              refine useq_nil ?_
              go_wp2_with fail
              go_ret2
              exact hres.out
          · go_simp
            refine (hLT.out w20).mono ?_
            rintro e w21 ⟨AL, cL, rfl, hownL, hx1⟩
            have hIL := IntsAt.own hownL
            clear hownL
            replace hx0 := hx0.trans hx1
            clear hx1
            refine hK.out _ _ hx0 ?_
            (try simp only [Act.put, List.setIfInBounds_toArray, List.set_cons_zero, List.set_cons_succ])
            (refine useq_step rfl rfl rfl (fun K hK => ?_); go_simp)
            have hI := one_at (x := 0) (Blk.new w21 3 #[.int .i64 ((0 : Nat) : Int)])
            have hx1 := (Ext.refl w21).alloc (.cells #[.int .i64 ((0 : Nat) : Int)] 3)
            replace hx0 := hx0.trans hx1
            replace hIL := hIL.ext hx1
            clear hx1
            refine hK.out _ _ hx0 ?_
            (try simp only [Act.put, List.setIfInBounds_toArray, List.set_cons_zero, List.set_cons_succ])
            generalize w21.alloc (.cells #[.int .i64 ((0 : Nat) : Int)] 3) = w22 at *
            generalize w21.heap.size = g1 at *
            (refine useq_last rfl rfl rfl rfl (fun K hK => ?_))
            go_simp
            refine (key.out _ hx0 _ _ _ _ _ hI hIL).mono ?_
            rintro e w23 ⟨hx1, hcase⟩
            have hx2 := hw9.trans (hx0.trans hx1)
            rcases hcase with ⟨v, rfl, hF⟩ | ⟨rfl, hF⟩
            · have hres := hide (show RetPath w (brkD ss a p) [0] (brkG a p) (letters (U ||| al) 6) _ w23 from ⟨hx2, Or.inl ⟨v, rfl, hF⟩⟩)
              refine hK.out _ _ ?_
              (try simp only [Act.put, List.setIfInBounds_toArray, List.set_cons_zero, List.set_cons_succ])
              repeat (first | (refine useq_skip rfl rfl (by assumption) ?_; simp only [Act.put, List.setIfInBounds_toArray, List.set_cons_zero, List.set_cons_succ]) | (refine useq_pure (v := ?_) rfl rfl rfl rfl (fun X => ?_) ?_; rotate_left; (focus (go_simp <;> with_reducible rfl)); simp only [Act.put, List.setIfInBounds_toArray, List.set_cons_zero, List.set_cons_succ]) | (refine useq_read (v := ?_) rfl rfl rfl rfl (fun X hX => ?_) ?_; rotate_left; (focus (go_simp <;> with_reducible rfl)); simp only [Act.put, List.setIfInBounds_toArray, List.set_cons_zero, List.set_cons_succ]))
              refine useq_nil ?_
              go_wp2_with fail
              go_ret2
              exact hres.out
            · have hres := hide (show RetPath w (brkD ss a p) [0] (brkG a p) (letters (U ||| al) 6) _ w23 from ⟨hx2, Or.inr ⟨rfl, hF⟩⟩)
              refine hK.out _ _ ?_
              (try simp only [Act.put, List.setIfInBounds_toArray, List.set_cons_zero, List.set_cons_succ])
              repeat (first | (refine useq_skip rfl rfl (by assumption) ?_; simp only [Act.put, List.setIfInBounds_toArray, List.set_cons_zero, List.set_cons_succ]) | (refine useq_pure (v := ?_) rfl rfl rfl rfl (fun X => ?_) ?_; rotate_left; (focus (go_simp <;> with_reducible rfl)); simp only [Act.put, List.setIfInBounds_toArray, List.set_cons_zero, List.set_cons_succ]) | (refine useq_read (v := ?_) rfl rfl rfl rfl (fun X hX => ?_) ?_; rotate_left; (focus (go_simp <;> with_reducible rfl)); simp only [Act.put, List.setIfInBounds_toArray, List.set_cons_zero, List.set_cons_succ]))
              refine useq_nil ?_
              go_wp2_with fail
              go_ret2
              exact hres.out
      · go_simp
        have hI := one_at (x := 0) (Blk.new wd 3 #[.int .i64 ((0 : Nat) : Int)])
        have hx1 := (Ext.refl wd).alloc (.cells #[.int .i64 ((0 : Nat) : Int)] 3)
        replace hx0 := hx0.trans hx1
        clear hx1
        refine hK.out _ _ hx0 ?_
        (try simp only [Act.put, List.setIfInBounds_toArray, List.set_cons_zero, List.set_cons_succ])
        generalize wd.alloc (.cells #[.int .i64 ((0 : Nat) : Int)] 3) = w20 at *
        generalize wd.heap.size = g1 at *
        refine useq_both rfl rfl rfl rfl (fun K hK => ?_) (fun K hK => ?_)
        · go_simp
          refine (hSZ.out _ hx0).mono ?_
          rintro e w21 ⟨rfl, hx1⟩
          replace hx0 := hx0.trans hx1
          replace hI := hI.ext hx1
          clear hx1
          refine hK.out _ _ hx0 ?_
          (try simp only [Act.put, List.setIfInBounds_toArray, List.set_cons_zero, List.set_cons_succ])
          repeat (first | (refine useq_skip rfl rfl (by assumption) ?_; simp only [Act.put, List.setIfInBounds_toArray, List.set_cons_zero, List.set_cons_succ]) | (refine useq_pure (v := ?_) rfl rfl rfl rfl (fun X => ?_) ?_; rotate_left; (focus (go_simp <;> with_reducible rfl)); simp only [Act.put, List.setIfInBounds_toArray, List.set_cons_zero, List.set_cons_succ]) | (refine useq_read (v := ?_) rfl rfl rfl rfl (fun X hX => ?_) ?_; rotate_left; (focus (go_simp <;> with_reducible rfl)); simp only [Act.put, List.setIfInBounds_toArray, List.set_cons_zero, List.set_cons_succ]))
          (refine useq_step rfl rfl rfl (fun K hK => ?_); go_simp)
          refine hK.out _ _ hx0 ?_
          (try simp only [Act.put, List.setIfInBounds_toArray, List.set_cons_zero, List.set_cons_succ])
          repeat (first | (refine useq_skip rfl rfl (by assumption) ?_; simp only [Act.put, List.setIfInBounds_toArray, List.set_cons_zero, List.set_cons_succ]) | (refine useq_pure (v := ?_) rfl rfl rfl rfl (fun X => ?_) ?_; rotate_left; (focus (go_simp <;> with_reducible rfl)); simp only [Act.put, List.setIfInBounds_toArray, List.set_cons_zero, List.set_cons_succ]) | (refine useq_read (v := ?_) rfl rfl rfl rfl (fun X hX => ?_) ?_; rotate_left; (focus (go_simp <;> with_reducible rfl)); simp only [Act.put, List.setIfInBounds_toArray, List.set_cons_zero, List.set_cons_succ]))
          (refine useq_step rfl rfl rfl (fun K hK => ?_); go_simp)
          refine (hLT.out w21).mono ?_
          rintro e w22 ⟨AL, cL, rfl, hownL, hx1⟩
          have hIL := IntsAt.own hownL
          clear hownL
          replace hx0 := hx0.trans hx1
          replace hI := hI.ext hx1
          clear hx1
          refine hK.out _ _ hx0 ?_
          (try simp only [Act.put, List.setIfInBounds_toArray, List.set_cons_zero, List.set_cons_succ])
          (refine useq_last rfl rfl rfl rfl (fun K hK => ?_))
          go_simp
          refine (key.out _ hx0 _ _ _ _ _ hI hIL).mono ?_
          rintro e w23 ⟨hx1, hcase⟩
          have hx2 := hw9.trans (hx0.trans hx1)
          rcases hcase with ⟨v, rfl, hF⟩ | ⟨rfl, hF⟩
          · have hres := hide (show RetPath w (brkD ss a p) [0] (brkG a p) (letters (U ||| al) 6) _ w23 from ⟨hx2, Or.inl ⟨v, rfl, hF⟩⟩)
            refine hK.out _ _ ?_
            (try simp only [Act.put, List.setIfInBounds_toArray, List.set_cons_zero, List.set_cons_succ])
            repeat (first | (refine useq_skip rfl rfl (by assumption) ?_; simp only [Act.put, List.setIfInBounds_toArray, List.set_cons_zero, List.set_cons_succ]) | (refine useq_pure (v := ?_) rfl rfl rfl rfl (fun X => ?_) ?_; rotate_left; (focus (go_simp <;> with_reducible rfl)); simp only [Act.put, List.setIfInBounds_toArray, List.set_cons_zero, List.set_cons_succ]) | (refine useq_read (v := ?_) rfl rfl rfl rfl (fun X hX => ?_) ?_; rotate_left; (focus (go_simp <;> with_reducible rfl)); simp only [Act.put, List.setIfInBounds_toArray, List.set_cons_zero, List.set_cons_succ]))
            refine useq_nil ?_
            go_wp2_with fail
            go_ret2
            exact hres.out
          · have hres := hide (show RetPath w (brkD ss a p) [0] (brkG a p) (letters (U ||| al) 6) _ w23 from ⟨hx2, Or.inr ⟨rfl, hF⟩⟩)
            refine hK.out _ _ ?_
            (try simp only [Act.put, List.setIfInBounds_toArray, List.set_cons_zero, List.set_cons_succ])
            repeat (first | (refine useq_skip rfl rfl (by assumption) ?_; simp only [Act.put, List.setIfInBounds_toArray, List.set_cons_zero, List.set_cons_succ]) | (refine useq_pure (v := ?_) rfl rfl rfl rfl (fun X => ?_) ?_; rotate_left; (focus (go_simp <;> with_reducible rfl)); simp only [Act.put, List.setIfInBounds_toArray, List.set_cons_zero, List.set_cons_succ]) | (refine useq_read (v := ?_) rfl rfl rfl rfl (fun X hX => ?_) ?_; rotate_left; (focus (go_simp <;> with_reducible rfl)); simp only [Act.put, List.setIfInBounds_toArray, List.set_cons_zero, List.set_cons_succ]))
            refine useq_nil ?_
            go_wp2_with fail
            go_ret2
            exact hres.out
        · go_simp
          refine hK.out _ _ hx0 ?_
          (try simp only [Act.put, List.setIfInBounds_toArray, List.set_cons_zero, List.set_cons_succ])
          repeat (first | (refine useq_skip rfl rfl (by assumption) ?_; simp only [Act.put, List.setIfInBounds_toArray, List.set_cons_zero, List.set_cons_succ]) | (refine useq_pure (v := ?_) rfl rfl rfl rfl (fun X => ?_) ?_; rotate_left; (focus (go_simp <;> with_reducible rfl)); simp only [Act.put, List.setIfInBounds_toArray, List.set_cons_zero, List.set_cons_succ]) | (refine useq_read (v := ?_) rfl rfl rfl rfl (fun X hX => ?_) ?_; rotate_left; (focus (go_simp <;> with_reducible rfl)); simp only [Act.put, List.setIfInBounds_toArray, List.set_cons_zero, List.set_cons_succ]))
          (refine useq_step rfl rfl rfl (fun K hK => ?_); go_simp)
          refine (hSZ.out _ hx0).mono ?_
          rintro e w21 ⟨rfl, hx1⟩
          replace hx0 := hx0.trans hx1
          replace hI := hI.ext hx1
          clear hx1
          refine hK.out _ _ hx0 ?_
          (try simp only [Act.put, List.setIfInBounds_toArray, List.set_cons_zero, List.set_cons_succ])
          repeat (first | (refine useq_skip rfl rfl (by assumption) ?_; simp only [Act.put, List.setIfInBounds_toArray, List.set_cons_zero, List.set_cons_succ]) | (refine useq_pure (v := ?_) rfl rfl rfl rfl (fun X => ?_) ?_; rotate_left; (focus (go_simp <;> with_reducible rfl)); simp only [Act.put, List.setIfInBounds_toArray, List.set_cons_zero, List.set_cons_succ]) | (refine useq_read (v := ?_) rfl rfl rfl rfl (fun X hX => ?_) ?_; rotate_left; (focus (go_simp <;> with_reducible rfl)); simp only [Act.put, List.setIfInBounds_toArray, List.set_cons_zero, List.set_cons_succ]))
          (refine useq_step rfl rfl rfl (fun K hK => ?_); go_simp)
          refine (hLT.out w21).mono ?_
          rintro e w22 ⟨AL, cL, rfl, hownL, hx1⟩
          have hIL := IntsAt.own hownL
          clear hownL
          replace hx0 := hx0.trans hx1
          replace hI := hI.ext hx1
          clear hx1
          refine hK.out _ _ hx0 ?_
          (try simp only [Act.put, List.setIfInBounds_toArray, List.set_cons_zero, List.set_cons_succ])
          (refine useq_last rfl rfl rfl rfl (fun K hK => ?_))
          go_simp
          refine (key.out _ hx0 _ _ _ _ _ hI hIL).mono ?_
          rintro e w23 ⟨hx1, hcase⟩
          have hx2 := hw9.trans (hx0.trans hx1)
          rcases hcase with ⟨v, rfl, hF⟩ | ⟨rfl, hF⟩
          · have hres := hide (show RetPath w (brkD ss a p) [0] (brkG a p) (letters (U ||| al) 6) _ w23 from ⟨hx2, Or.inl ⟨v, rfl, hF⟩⟩)
            refine hK.out _ _ ?_
            (try simp only [Act.put, List.setIfInBounds_toArray, List.set_cons_zero, List.set_cons_succ])
            repeat (first | (refine useq_skip rfl rfl (by assumption) ?_; simp only [Act.put, List.setIfInBounds_toArray, List.set_cons_zero, List.set_cons_succ]) | (refine useq_pure (v := ?_) rfl rfl rfl rfl (fun X => ?_) ?_; rotate_left; (focus (go_simp <;> with_reducible rfl)); simp only [Act.put, List.setIfInBounds_toArray, List.set_cons_zero, List.set_cons_succ]) | (refine useq_read (v := ?_) rfl rfl rfl rfl (fun X hX => ?_) ?_; rotate_left; (focus (go_simp <;> with_reducible rfl)); simp only [Act.put, List.setIfInBounds_toArray, List.set_cons_zero, List.set_cons_succ]))
            refine useq_nil ?_
            go_wp2_with fail
            go_ret2
            exact hres.out
          · have hres := hide (show RetPath w (brkD ss a p) [0] (brkG a p) (letters (U ||| al) 6) _ w23 from ⟨hx2, Or.inr ⟨rfl, hF⟩⟩)
            refine hK.out _ _ ?_
            (try simp only [Act.put, List.setIfInBounds_toArray, List.set_cons_zero, List.set_cons_succ])
            repeat (first | (refine useq_skip rfl rfl (by assumption) ?_; simp only [Act.put, List.setIfInBounds_toArray, List.set_cons_zero, List.set_cons_succ]) | (refine useq_pure (v := ?_) rfl rfl rfl rfl (fun X => ?_) ?_; rotate_left; (focus (go_simp <;> with_reducible rfl)); simp only [Act.put, List.setIfInBounds_toArray, List.set_cons_zero, List.set_cons_succ]) | (refine useq_read (v := ?_) rfl rfl rfl rfl (fun X hX => ?_) ?_; rotate_left; (focus (go_simp <;> with_reducible rfl)); simp only [Act.put, List.setIfInBounds_toArray, List.set_cons_zero, List.set_cons_succ]))
            refine useq_nil ?_
            go_wp2_with fail
            go_ret2
            exact hres.out
      · go_simp
        refine hK.out _ _ hx0 ?_
        (try simp only [Act.put, List.setIfInBounds_toArray, List.set_cons_zero, List.set_cons_succ])
        repeat (first | (refine useq_skip rfl rfl (by assumption) ?_; simp only [Act.put, List.setIfInBounds_toArray, List.set_cons_zero, List.set_cons_succ]) | (refine useq_pure (v := ?_) rfl rfl rfl rfl (fun X => ?_) ?_; rotate_left; (focus (go_simp <;> with_reducible rfl)); simp only [Act.put, List.setIfInBounds_toArray, List.set_cons_zero, List.set_cons_succ]) | (refine useq_read (v := ?_) rfl rfl rfl rfl (fun X hX => ?_) ?_; rotate_left; (focus (go_simp <;> with_reducible rfl)); simp only [Act.put, List.setIfInBounds_toArray, List.set_cons_zero, List.set_cons_succ]))
        refine useq_both rfl rfl rfl rfl (fun K hK => ?_) (fun K hK => ?_)
        · go_simp
          refine (hSZ.out _ hx0).mono ?_
          rintro e w20 ⟨rfl, hx1⟩
          replace hx0 := hx0.trans hx1
          clear hx1
          refine hK.out _ _ hx0 ?_
          (try simp only [Act.put, List.setIfInBounds_toArray, List.set_cons_zero, List.set_cons_succ])
          repeat (first | (refine useq_skip rfl rfl (by assumption) ?_; simp only [Act.put, List.setIfInBounds_toArray, List.set_cons_zero, List.set_cons_succ]) | (refine useq_pure (v := ?_) rfl rfl rfl rfl (fun X => ?_) ?_; rotate_left; (focus (go_simp <;> with_reducible rfl)); simp only [Act.put, List.setIfInBounds_toArray, List.set_cons_zero, List.set_cons_succ]) | (refine useq_read (v := ?_) rfl rfl rfl rfl (fun X hX => ?_) ?_; rotate_left; (focus (go_simp <;> with_reducible rfl)); simp only [Act.put, List.setIfInBounds_toArray, List.set_cons_zero, List.set_cons_succ]))
          refine useq_both rfl rfl rfl rfl (fun K hK => ?_) (fun K hK => ?_)
          · go_simp
            have hI := one_at (x := 0) (Blk.new w20 3 #[.int .i64 ((0 : Nat) : Int)])
            have hx1 := (Ext.refl w20).alloc (.cells #[.int .i64 ((0 : Nat) : Int)] 3)
            replace hx0 := hx0.trans hx1
            clear hx1
            refine hK.out _ _ hx0 ?_
            (try simp only [Act.put, List.setIfInBounds_toArray, List.set_cons_zero, List.set_cons_succ])
            generalize w20.alloc (.cells #[.int .i64 ((0 : Nat) : Int)] 3) = w21 at *
            generalize w20.heap.size = g1 at *
            (refine useq_step rfl rfl rfl (fun K hK => ?_); go_simp)
            refine (hLT.out w21).mono ?_
            rintro e w22 ⟨AL, cL, rfl, hownL, hx1⟩
            have hIL := IntsAt.own hownL
            clear hownL
            replace hx0 := hx0.trans hx1
            replace hI := hI.ext hx1
            clear hx1
            refine hK.out _ _ hx0 ?_
            (try simp only [Act.put, List.setIfInBounds_toArray, List.set_cons_zero, List.set_cons_succ])
            (refine useq_last rfl rfl rfl rfl (fun K hK => ?_))
            go_simp
            refine (key.out _ hx0 _ _ _ _ _ hI hIL).mono ?_
            rintro e w23 ⟨hx1, hcase⟩
            have hx2 := hw9.trans (hx0.trans hx1)
            rcases hcase with ⟨v, rfl, hF⟩ | ⟨rfl, hF⟩
            · have hres := hide (show RetPath w (brkD ss a p) [0] (brkG a p) (letters (U ||| al) 6) _ w23 from ⟨hx2, Or.inl ⟨v, rfl, hF⟩⟩)
              refine hK.out _ _ ?_
              (try simp only [Act.put, List.setIfInBounds_toArray, List.set_cons_zero, List.set_cons_succ])
              repeat (first | (refine useq_skip rfl rfl (by assumption) ?_; simp only [Act.put, List.setIfInBounds_toArray, List.set_cons_zero, List.set_cons_succ]) | (refine useq_pure (v := ?_) rfl rfl rfl rfl (fun X => ?_) ?_; rotate_left; (focus (go_simp <;> with_reducible rfl)); simp only [Act.put, List.setIfInBounds_toArray, List.set_cons_zero, List.set_cons_succ]) | (refine useq_read (v := ?_) rfl rfl rfl rfl (fun X hX => ?_) ?_; rotate_left; (focus (go_simp <;> with_reducible rfl)); simp only [Act.put, List.setIfInBounds_toArray, List.set_cons_zero, List.set_cons_succ]))
              refine useq_nil ?_
              go_wp2_with fail
              go_ret2
              exact hres.out
            · have hres := hide (show RetPath w (brkD ss a p) [0] (brkG a p) (letters (U ||| al) 6) _ w23 from ⟨hx2, Or.inr ⟨rfl, hF⟩⟩)
              refine hK.out _ _ ?_
              (try simp only [Act.put, List.setIfInBounds_toArray, List.set_cons_zero, List.set_cons_succ])
              repeat (first | (refine useq_skip rfl rfl (by assumption) ?_; simp only [Act.put, List.setIfInBounds_toArray, List.set_cons_zero, List.set_cons_succ]) | (refine useq_pure (v := ?_) rfl rfl rfl rfl (fun X => ?_) ?_; rotate_left; (focus (go_simp <;> with_reducible rfl)); simp only [Act.put, List.setIfInBounds_toArray, List.set_cons_zero, List.set_cons_succ]) | (refine useq_read (v := ?_) rfl rfl rfl rfl (fun X hX => ?_) ?_; rotate_left; (focus (go_simp <;> with_reducible rfl)); simp only [Act.put, List.setIfInBounds_toArray, List.set_cons_zero, List.set_cons_succ]))
              refine useq_nil ?_
              go_wp2_with fail
              go_ret2
              exact hres.out
          · go_simp
            refine (hLT.out w20).mono ?_
            rintro e w21 ⟨AL, cL, rfl, hownL, hx1⟩
            have hIL := IntsAt.own hownL
            clear hownL
            replace hx0 := hx0.trans hx1
            clear hx1
            refine hK.out _ _ hx0 ?_
            (try simp only [Act.put, List.setIfInBounds_toArray, List.set_cons_zero, List.set_cons_succ])
            (refine useq_step rfl rfl rfl (fun K hK => ?_); go_simp)
            have hI := one_at (x := 0) (Blk.new w21 3 #[.int .i64 ((0 : Nat) : Int)])
            have hx1 := (Ext.refl w21).alloc (.cells #[.int .i64 ((0 : Nat) : Int)] 3)
            replace hx0 := hx0.trans hx1
            replace hIL := hIL.ext hx1
            clear hx1
            refine hK.out _ _ hx0 ?_
            (try simp only [Act.put, List.setIfInBounds_toArray, List.set_cons_zero, List.set_cons_succ])
            generalize w21.alloc (.cells #[.int .i64 ((0 : Nat) : Int)] 3) = w22 at *
            generalize w21.heap.size = g1 at *
            (refine useq_last rfl rfl rfl rfl (fun K hK => ?_))
            go_simp
            refine (key.out _ hx0 _ _ _ _ _ hI hIL).mono ?_
            rintro e w23 ⟨hx1, hcase⟩
            have hx2 := hw9.trans (hx0.trans hx1)
            rcases hcase with ⟨v, rfl, hF⟩ | ⟨rfl, hF⟩
            · have hres := hide (show RetPath w (brkD ss a p) [0] (brkG a p) (letters (U ||| al) 6) _ w23 from ⟨hx2, Or.inl ⟨v, rfl, hF⟩⟩)
              refine hK.out _ _ ?_
              (try simp only [Act.put, List.setIfInBounds_toArray, List.set_cons_zero, List.set_cons_succ])
              repeat (first | (refine useq_skip rfl rfl (by assumption) ?_; simp only [Act.put, List.setIfInBounds_toArray, List.set_cons_zero, List.set_cons_succ]) | (refine useq_pure (v := ?_) rfl rfl rfl rfl (fun X => ?_) ?_; rotate_left; (focus (go_simp <;> with_reducible rfl)); simp only [Act.put, List.setIfInBounds_toArray, List.set_cons_zero, List.set_cons_succ]) | (refine useq_read (v := ?_) rfl rfl rfl rfl (fun X hX => ?_) ?_; rotate_left; (focus (go_simp <;> with_reducible rfl)); simp only [Act.put, List.setIfInBounds_toArray, List.set_cons_zero, List.set_cons_succ]))
              refine useq_nil ?_
              go_wp2_with fail
              go_ret2
              exact hres.out
            · have hres := hide (show RetPath w (brkD ss a p) [0] (brkG a p) (letters (U ||| al) 6) _ w23 from ⟨hx2, Or.inr ⟨rfl, hF⟩⟩)
              refine hK.out _ _ ?_
              (try simp only [Act.put, List.setIfInBounds_toArray, List.set_cons_zero, List.set_cons_succ])
              repeat (first | (refine useq_skip rfl rfl (by assumption) ?_; simp only [Act.put, List.setIfInBounds_toArray, List.set_cons_zero, List.set_cons_succ]) | (refine useq_pure (v := ?_) rfl rfl rfl rfl (fun X => ?_) ?_; rotate_left; (focus (go_simp <;> with_reducible rfl)); simp only [Act.put, List.setIfInBounds_toArray, List.set_cons_zero, List.set_cons_succ]) | (refine useq_read (v := ?_) rfl rfl rfl rfl (fun X hX => ?_) ?_; rotate_left; (focus (go_simp <;> with_reducible rfl)); simp only [Act.put, List.setIfInBounds_toArray, List.set_cons_zero, List.set_cons_succ]))
              refine useq_nil ?_
              go_wp2_with fail
              go_ret2
              exact hres.out
        · go_simp
          have hI := one_at (x := 0) (Blk.new wd 3 #[.int .i64 ((0 : Nat) : Int)])
          have hx1 := (Ext.refl wd).alloc (.cells #[.int .i64 ((0 : Nat) : Int)] 3)
          replace hx0 := hx0.trans hx1
          clear hx1
          refine hK.out _ _ hx0 ?_
          (try simp only [Act.put, List.setIfInBounds_toArray, List.set_cons_zero, List.set_cons_succ])
          generalize wd.alloc (.cells #[.int .i64 ((0 : Nat) : Int)] 3) = w20 at *
          generalize wd.heap.size = g1 at *
          (refine useq_step rfl rfl rfl (fun K hK => ?_); go_simp)
          refine (hSZ.out _ hx0).mono ?_
          rintro e w21 ⟨rfl, hx1⟩
          replace hx0 := hx0.trans hx1
          replace hI := hI.ext hx1
          clear hx1
          refine hK.out _ _ hx0 ?_
          (try simp only [Act.put, List.setIfInBounds_toArray, List.set_cons_zero, List.set_cons_succ])
          repeat (first | (refine useq_skip rfl rfl (by assumption) ?_; simp only [Act.put, List.setIfInBounds_toArray, List.set_cons_zero, List.set_cons_succ]) | (refine useq_pure (v := ?_) rfl rfl rfl rfl (fun X => ?_) ?_; rotate_left; (focus (go_simp <;> with_reducible rfl)); simp only [Act.put, List.setIfInBounds_toArray, List.set_cons_zero, List.set_cons_succ]) | (refine useq_read (v := ?_) rfl rfl rfl rfl (fun X hX => ?_) ?_; rotate_left; (focus (go_simp <;> with_reducible rfl)); simp only [Act.put, List.setIfInBounds_toArray, List.set_cons_zero, List.set_cons_succ]))
          (refine useq_step rfl rfl rfl (fun K hK => ?_); go_simp)
          refine (hLT.out w21).mono ?_
          rintro e w22 ⟨AL, cL, rfl, hownL, hx1⟩
          have hIL := IntsAt.own hownL
          clear hownL
          replace hx0 := hx0.trans hx1
          replace hI := hI.ext hx1
          clear hx1
          refine hK.out _ _ hx0 ?_
          (try simp only [Act.put, List.setIfInBounds_toArray, List.set_cons_zero, List.set_cons_succ])
          (refine useq_last rfl rfl rfl rfl (fun K hK => ?_))
          go_simp
          refine (key.out _ hx0 _ _ _ _ _ hI hIL).mono ?_
          rintro e w23 ⟨hx1, hcase⟩
          have hx2 := hw9.trans (hx0.trans hx1)
          rcases hcase with ⟨v, rfl, hF⟩ | ⟨rfl, hF⟩
          · have hres := hide (show RetPath w (brkD ss a p) [0] (brkG a p) (letters (U ||| al) 6) _ w23 from ⟨hx2, Or.inl ⟨v, rfl, hF⟩⟩)
            refine hK.out _ _ ?_
            (try simp only [Act.put, List.setIfInBounds_toArray, List.set_cons_zero, List.set_cons_succ])
            repeat (first | (refine useq_skip rfl rfl (by assumption) ?_; simp only [Act.put, List.setIfInBounds_toArray, List.set_cons_zero, List.set_cons_succ]) | (refine useq_pure (v := ?_) rfl rfl rfl rfl (fun X => ?_) ?_; rotate_left; (focus (go_simp <;> with_reducible rfl)); simp only [Act.put, List.setIfInBounds_toArray, List.set_cons_zero, List.set_cons_succ]) | (refine useq_read (v := ?_) rfl rfl rfl rfl (fun X hX => ?_) ?_; rotate_left; (focus (go_simp <;> with_reducible rfl)); simp only [Act.put, List.setIfInBounds_toArray, List.set_cons_zero, List.set_cons_succ]))
            refine useq_nil ?_
            go_wp2_with fail
            go_ret2
            exact hres.out
          · have hres := hide (show RetPath w (brkD ss a p) [0] (brkG a p) (letters (U ||| al) 6) _ w23 from ⟨hx2, Or.inr ⟨rfl, hF⟩⟩)
            refine hK.out _ _ ?_
            (try simp only [Act.put, List.setIfInBounds_toArray, List.set_cons_zero, List.set_cons_succ])
            repeat (first | (refine useq_skip rfl rfl (by assumption) ?_; simp only [Act.put, List.setIfInBounds_toArray, List.set_cons_zero, List.set_cons_succ]) | (refine useq_pure (v := ?_) rfl rfl rfl rfl (fun X => ?_) ?_; rotate_left; (focus (go_simp <;> with_reducible rfl)); simp only [Act.put, List.setIfInBounds_toArray, List.set_cons_zero, List.set_cons_succ]) | (refine useq_read (v := ?_) rfl rfl rfl rfl (fun X hX => ?_) ?_; rotate_left; (focus (go_simp <;> with_reducible rfl)); simp only [Act.put, List.setIfInBounds_toArray, List.set_cons_zero, List.set_cons_succ]))
            refine useq_nil ?_
            go_wp2_with fail
            go_ret2
            exact hres.out
end Go.Proofs.YtplllipekeomiaaGreatDoor
