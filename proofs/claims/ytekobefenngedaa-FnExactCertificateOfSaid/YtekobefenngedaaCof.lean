/- CertificateOf of the program and of the reference, walked. -/
import Derived.Test.YtekobefenngedaaGra2
import Derived.Test.YtekobefenngedaaVer
namespace Go.Proofs.Ytekobefenngedaa
open Go Go.RowKit
set_option maxHeartbeats 2000000

theorem fill5_frm (W : World) (Z : Nat) (u0 u1 u2 u3 u4 : Value) : Frm (fun k => k = Z) W (((((W.setCell ⟨Z, 0, none⟩ u0).setCell ⟨Z, 1, none⟩ u1).setCell ⟨Z, 2, none⟩ u2).setCell ⟨Z, 3, none⟩ u3).setCell ⟨Z, 4, none⟩ u4) :=
  ((((Frm.setCell W Z 0 u0).trans (Frm.setCell _ Z 1 u1)).trans (Frm.setCell _ Z 2 u2)).trans (Frm.setCell _ Z 3 u3)).trans (Frm.setCell _ Z 4 u4)
theorem fill5_blk {w : World} {Z : Nat} {cs : Array Value} {t : TypeId} (h : Blk w Z t cs) (hc : cs.size = 5) (u0 u1 u2 u3 u4 : Value) : Blk (((((w.setCell ⟨Z, 0, none⟩ u0).setCell ⟨Z, 1, none⟩ u1).setCell ⟨Z, 2, none⟩ u2).setCell ⟨Z, 3, none⟩ u3).setCell ⟨Z, 4, none⟩ u4) Z t #[u0, u1, u2, u3, u4] := by
  obtain ⟨l⟩ := cs
  match l, hc with
  | [a, b, c, d, e], _ => simpa using ((((h.set_ 0 u0).set_ 1 u1).set_ 2 u2).set_ 3 u3).set_ 4 u4
/-- What CertificateOf answers. -/
def RetCof (w : World) (hd : Bool) (a : Aut) (s : ByteArray) (b : Bool) (e : Ending) (w' : World) : Prop :=
  ∃ A n c A' n' c', e = .returned (.tuple #[.agg #[.bool hd, .int .i64 a.al, .slice A n c, .slice A' n' c', .string s], .bool b]) ∧ AutOwn w' w.heap.size A n c A' n' c' a ∧ Ext w w'
def aut0 : Aut := ⟨0, [], []⟩
theorem own_aut0 (w : World) (base : Nat) : AutOwn w base none 0 0 none 0 0 aut0 := ⟨⟨[], World.ownsRow_nil _ _ _ _, RowsOwn.nil _ _⟩, rfl, World.ownsRow_nil _ _ _ _, rfl⟩
def okC (cd : Int) (a : Aut) (s : ByteArray) : Bool := (decide (cd = 0) || decide (cd = 1)) && certValid (decide (cd = 0)) a s
theorem okC0 (a : Aut) (s : ByteArray) : okC 0 a s = certValid true a s := by simp [okC]
theorem okC1 (a : Aut) (s : ByteArray) : okC 1 a s = certValid false a s := by simp [okC]
/-- A variable that holds a new certificate. -/
def NewC (w W : World) (G : Nat) (hd : Bool) (a : Aut) (s : ByteArray) (B : Option Addr) (m d : Nat) (B' : Option Addr) (m' d' : Nat) : Prop :=
  Blk W G 31 #[.bool hd, .int .i64 a.al, .slice B m d, .slice B' m' d', .string s] ∧ AutOwn W w.heap.size B m d B' m' d' a ∧ Ext w W ∧ w.heap.size ≤ G
theorem AutOwn.own_far5 {w w' : World} {base G : Nat} {A : Option Addr} {n c : Nat} {A' : Option Addr} {n' c' : Nat} {a : Aut} {cs : Array Value} (h : AutOwn w base A n c A' n' c' a) (hB : Blk w G 31 cs) (hf : Frm (fun k => k = G) w w') : AutOwn w' base A n c A' n' c' a := by
  obtain ⟨⟨rows, h1, h2⟩, h3, h4, h5⟩ := h
  exact ⟨⟨rows, own_frm h1 hf (fun b hb e => own_far h1 hB (by decide) hb e), h2.frm hf (fun i row b hr hb e => by
    obtain ⟨l, _, ho⟩ := h2.row hr
    exact own_far ho hB (by decide) hb e)⟩, h3, own_frm h4 hf (fun b hb e => own_far h4 hB (by decide) hb e), h5⟩
set_option maxRecDepth 100000 in
theorem impl_CertificateOf0t {lo hi : Nat} {A : Option Addr} {n c : Nat} {A' : Option Addr} {n' c' : Nat} {ro : Int} {a : Aut} {s : ByteArray} {w : World} (h : AutAt w lo hi A n A' n' a) (hs : a.size ≤ 1048576) (hs9 : s.size ≤ 9223372036854775807) (hv : certValid true a s = true) :
    Calls Try.prog 7 #[.agg #[.int .i64 0, .int .i64 a.al, .slice A n c, .slice A' n' c', .string s, .int .i64 ro]] w (RetCof w true a s true) := by
  have Hv := hide hv
  clear hv
  have HS := hide (fun W (hW : Ext w W) => h.ext hW)
  have hss := hs
  clear h
  go_enter Try.func7, Try.ntmps7
  obtain ⟨b1, bz⟩ := ext_blk2 (Ext.refl ((w.alloc (.cells #[.int .i64 0, .int .i64 a.al, .slice A n c, .slice A' n' c', .string s, .int .i64 ro] 35)).alloc (.cells #[.bool false, .int .i64 0, .slice none 0 0, .slice none 0 0, .string ⟨#[]⟩] 31)))
  have hw2 : Ext w ((w.alloc (.cells #[.int .i64 0, .int .i64 a.al, .slice A n c, .slice A' n' c', .string s, .int .i64 ro] 35)).alloc (.cells #[.bool false, .int .i64 0, .slice none 0 0, .slice none 0 0, .string ⟨#[]⟩] 31)) := ((Ext.refl w).alloc _).alloc _
  have hsz2 : w.heap.size + 2 = ((w.alloc (.cells #[.int .i64 0, .int .i64 a.al, .slice A n c, .slice A' n' c', .string s, .int .i64 ro] 35)).alloc (.cells #[.bool false, .int .i64 0, .slice none 0 0, .slice none 0 0, .string ⟨#[]⟩] 31)).heap.size := by simp
  have k1 := b1.cell
  go_upto_region 3 with fail
  generalize (w.alloc (.cells #[.int .i64 0, .int .i64 a.al, .slice A n c, .slice A' n' c', .string s, .int .i64 ro] 35)).alloc (.cells #[.bool false, .int .i64 0, .slice none 0 0, .slice none 0 0, .string ⟨#[]⟩] 31) = w2 at *
  clear k1
  go_cut [4] (fun v wx => ∃ G B m d B' m' d', v = .pointer (some ⟨G, 0, none⟩) ∧ NewC w2 wx G true a s B m d B' m' d')
  case first =>
    have c1 := fun W (hW : Ext w2 W) => (b1.ext hW).cell
    have hww := Ext.refl w2
    refine wp_region_tailU (fun X => Ext w2 X) [10] (OrdU.app [0, 1, 2, 3, 4, 6, 7] (OrdU.two 5 (OrdU.of [8, 9, 10]) 9 (OrdU.of [5, 8, 10]))) (by kernel_rfl) (by kernel_rfl) (by kernel_rfl) (by kernel_rfl) (by kernel_rfl) (fun _ _ _ _ _ h => h) (by first | assumption | exact (Ext.refl _).drew | (refine Ext.drew ?_; assumption)) ?_
    repeat (first | (refine useq_skip rfl rfl (by assumption) ?_; simp only [Act.put, List.setIfInBounds_toArray, List.set_cons_zero, List.set_cons_succ]) | (refine useq_pure (v := ?_) rfl rfl rfl rfl (fun X => ?_) ?_; rotate_left; (focus (go_simp <;> with_reducible rfl)); simp only [Act.put, List.setIfInBounds_toArray, List.set_cons_zero, List.set_cons_succ]) | (refine useq_read (v := ?_) rfl rfl rfl rfl (fun X hX => ?_) ?_; rotate_left; (focus (go_simp <;> with_reducible rfl)); simp only [Act.put, List.setIfInBounds_toArray, List.set_cons_zero, List.set_cons_succ]))
    have hx0 : Ext w2 w2.drew := hww.drew
    generalize w2.drew = wd at *
    refine useq_both rfl rfl rfl rfl (fun K hK => ?_) (fun K hK => ?_)
    · go_simp
      refine (impl_copyAutomaton (HS.out _ (hw2.trans hx0)) hs).mono ?_
      rintro e w4 ⟨B, m, d, B', m', d', rfl, own4, hx4⟩
      replace own4 := own4.less hx0.size
      replace hx0 := hx0.trans hx4
      refine hK.out _ _ hx0 ?_
      (try simp only [Act.put, List.setIfInBounds_toArray, List.set_cons_zero, List.set_cons_succ])
      repeat (first | (refine useq_skip rfl rfl (by assumption) ?_; simp only [Act.put, List.setIfInBounds_toArray, List.set_cons_zero, List.set_cons_succ]) | (refine useq_pure (v := ?_) rfl rfl rfl rfl (fun X => ?_) ?_; rotate_left; (focus (go_simp <;> with_reducible rfl)); simp only [Act.put, List.setIfInBounds_toArray, List.set_cons_zero, List.set_cons_succ]) | (refine useq_read (v := ?_) rfl rfl rfl rfl (fun X hX => ?_) ?_; rotate_left; (focus (go_simp <;> with_reducible rfl)); simp only [Act.put, List.setIfInBounds_toArray, List.set_cons_zero, List.set_cons_succ]))
      (refine useq_step rfl rfl rfl (fun K hK => ?_); go_simp)
      have hx1 := (Ext.refl w4).alloc (.cells #[.bool false, .int .i64 0, .slice none 0 0, .slice none 0 0, .string ⟨#[]⟩] 31)
      have hb := Blk.new w4 31 #[.bool false, .int .i64 0, .slice none 0 0, .slice none 0 0, .string ⟨#[]⟩]
      have hG := hx0.size
      replace own4 := own4.ext hx1
      replace hx0 := hx0.trans hx1
      refine hK.out _ _ hx0 ?_
      generalize w4.alloc (.cells #[.bool false, .int .i64 0, .slice none 0 0, .slice none 0 0, .string ⟨#[]⟩] 31) = wg at *
      generalize w4.heap.size = G at *
      (try simp only [Act.put, List.setIfInBounds_toArray, List.set_cons_zero, List.set_cons_succ])
      repeat (first | (refine useq_skip rfl rfl (by assumption) ?_; simp only [Act.put, List.setIfInBounds_toArray, List.set_cons_zero, List.set_cons_succ]) | (refine useq_pure (v := ?_) rfl rfl rfl rfl (fun X => ?_) ?_; rotate_left; (focus (go_simp <;> with_reducible rfl)); simp only [Act.put, List.setIfInBounds_toArray, List.set_cons_zero, List.set_cons_succ]) | (refine useq_read (v := ?_) rfl rfl rfl rfl (fun X hX => ?_) ?_; rotate_left; (focus (go_simp <;> with_reducible rfl)); simp only [Act.put, List.setIfInBounds_toArray, List.set_cons_zero, List.set_cons_succ]))
      have cG := hb.cell
      have fG := hb.frozen
      (refine useq_last rfl rfl rfl rfl (fun K hK => ?_))
      go_simp
      refine hK.out _ _ ?_
      refine useq_nil ?_
      have hfl := fill5_frm wg G (.bool true) (.int .i64 a.al) (.slice B m d) (.slice B' m' d') (.string s)
      have hfin : NewC w2 (((((wg.setCell ⟨G, 0, none⟩ (.bool true)).setCell ⟨G, 1, none⟩ (.int .i64 a.al)).setCell ⟨G, 2, none⟩ (.slice B m d)).setCell ⟨G, 3, none⟩ (.slice B' m' d')).setCell ⟨G, 4, none⟩ (.string s)) G true a s B m d B' m' d' := ⟨fill5_blk hb rfl _ _ _ _ _, own4.own_far5 hb hfl, hx0.frm hfl (fun k hk e => by omega), hG⟩
      go_wp2_with fail
      go_meet
      exact ⟨G, _, _, _, _, _, _, rfl, hfin⟩
    · go_simp
      have hx1 := (Ext.refl wd).alloc (.cells #[.bool false, .int .i64 0, .slice none 0 0, .slice none 0 0, .string ⟨#[]⟩] 31)
      have hb := Blk.new wd 31 #[.bool false, .int .i64 0, .slice none 0 0, .slice none 0 0, .string ⟨#[]⟩]
      have hG := hx0.size
      replace hx0 := hx0.trans hx1
      refine hK.out _ _ hx0 ?_
      generalize wd.alloc (.cells #[.bool false, .int .i64 0, .slice none 0 0, .slice none 0 0, .string ⟨#[]⟩] 31) = wg at *
      generalize wd.heap.size = G at *
      (try simp only [Act.put, List.setIfInBounds_toArray, List.set_cons_zero, List.set_cons_succ])
      repeat (first | (refine useq_skip rfl rfl (by assumption) ?_; simp only [Act.put, List.setIfInBounds_toArray, List.set_cons_zero, List.set_cons_succ]) | (refine useq_pure (v := ?_) rfl rfl rfl rfl (fun X => ?_) ?_; rotate_left; (focus (go_simp <;> with_reducible rfl)); simp only [Act.put, List.setIfInBounds_toArray, List.set_cons_zero, List.set_cons_succ]) | (refine useq_read (v := ?_) rfl rfl rfl rfl (fun X hX => ?_) ?_; rotate_left; (focus (go_simp <;> with_reducible rfl)); simp only [Act.put, List.setIfInBounds_toArray, List.set_cons_zero, List.set_cons_succ]))
      (refine useq_step rfl rfl rfl (fun K hK => ?_); go_simp)
      refine (impl_copyAutomaton (HS.out _ (hw2.trans hx0)) hs).mono ?_
      rintro e w4 ⟨B, m, d, B', m', d', rfl, own4, hx4⟩
      replace own4 := own4.less hx0.size
      replace hb := hb.ext hx4
      replace hx0 := hx0.trans hx4
      refine hK.out _ _ hx0 ?_
      (try simp only [Act.put, List.setIfInBounds_toArray, List.set_cons_zero, List.set_cons_succ])
      repeat (first | (refine useq_skip rfl rfl (by assumption) ?_; simp only [Act.put, List.setIfInBounds_toArray, List.set_cons_zero, List.set_cons_succ]) | (refine useq_pure (v := ?_) rfl rfl rfl rfl (fun X => ?_) ?_; rotate_left; (focus (go_simp <;> with_reducible rfl)); simp only [Act.put, List.setIfInBounds_toArray, List.set_cons_zero, List.set_cons_succ]) | (refine useq_read (v := ?_) rfl rfl rfl rfl (fun X hX => ?_) ?_; rotate_left; (focus (go_simp <;> with_reducible rfl)); simp only [Act.put, List.setIfInBounds_toArray, List.set_cons_zero, List.set_cons_succ]))
      have cG := hb.cell
      have fG := hb.frozen
      (refine useq_last rfl rfl rfl rfl (fun K hK => ?_))
      go_simp
      refine hK.out _ _ ?_
      refine useq_nil ?_
      have hfl := fill5_frm w4 G (.bool true) (.int .i64 a.al) (.slice B m d) (.slice B' m' d') (.string s)
      have hfin : NewC w2 (((((w4.setCell ⟨G, 0, none⟩ (.bool true)).setCell ⟨G, 1, none⟩ (.int .i64 a.al)).setCell ⟨G, 2, none⟩ (.slice B m d)).setCell ⟨G, 3, none⟩ (.slice B' m' d')).setCell ⟨G, 4, none⟩ (.string s)) G true a s B m d B' m' d' := ⟨fill5_blk hb rfl _ _ _ _ _, own4.own_far5 hb hfl, hx0.frm hfl (fun k hk e => by omega), hG⟩
      go_wp2_with fail
      go_meet
      exact ⟨G, _, _, _, _, _, _, rfl, hfin⟩
  case rest =>
    obtain ⟨G, B, m, d, B', m', d', rfl, hb, own4, hx2, hG⟩ := hcut
    have kG := hb.cell
    have k1 := (b1.ext hx2).cell
    go_wp2_with fail
    refine (impl_CertificateValid _ _ _ _ _ _ _ _ _ _ _ _ own4.reads hs9).mono ?_
    rw [Hv.out]
    rintro e w5 ⟨rfl, hx5⟩
    clear kG k1
    replace hb := hb.ext hx5
    replace own4 := own4.ext hx5
    replace hx2 := hx2.trans hx5
    have kG := hb.cell
    have k1 := (b1.ext hx2).cell
    have hbz := bz.ext hx2
    have cZ := hbz.cell
    have fZ := hbz.frozen
    have hfl := fill5_frm w5 (w.heap.size + 1) (.bool true) (.int .i64 a.al) (.slice B m d) (.slice B' m' d') (.string s)
    have hbf := fill5_blk hbz rfl (.bool true) (.int .i64 a.al) (.slice B m d) (.slice B' m' d') (.string s)
    have hxf := (hw2.trans hx2).frm hfl (fun k hk e => by omega)
    have hfin := hide (show RetCof w true a s true (.returned (.tuple #[.agg #[.bool true, .int .i64 a.al, .slice B m d, .slice B' m' d', .string s], .bool true])) (((((w5.setCell ⟨w.heap.size + 1, 0, none⟩ (.bool true)).setCell ⟨w.heap.size + 1, 1, none⟩ (.int .i64 a.al)).setCell ⟨w.heap.size + 1, 2, none⟩ (.slice B m d)).setCell ⟨w.heap.size + 1, 3, none⟩ (.slice B' m' d')).setCell ⟨w.heap.size + 1, 4, none⟩ (.string s)) from ⟨B, m, d, B', m', d', rfl, (own4.keep hfl (fun b h1 e => by omega)).less (by omega), hxf⟩)
    go_wp2_with fail
    generalize (((((w5.setCell ⟨w.heap.size + 1, 0, none⟩ (.bool true)).setCell ⟨w.heap.size + 1, 1, none⟩ (.int .i64 a.al)).setCell ⟨w.heap.size + 1, 2, none⟩ (.slice B m d)).setCell ⟨w.heap.size + 1, 3, none⟩ (.slice B' m' d')).setCell ⟨w.heap.size + 1, 4, none⟩ (.string s)) = wf at *
    have cf := hbf.cell
    exact bodyPost_ret (v := .tuple #[.agg #[.bool true, .int .i64 a.al, .slice B m d, .slice B' m' d', .string s], .bool true]) (by simp [results, Try.results7, go_sem, cf]) rfl hfin.out
set_option maxRecDepth 100000 in
theorem impl_CertificateOf0f {lo hi : Nat} {A : Option Addr} {n c : Nat} {A' : Option Addr} {n' c' : Nat} {ro : Int} {a : Aut} {s : ByteArray} {w : World} (h : AutAt w lo hi A n A' n' a) (hs : a.size ≤ 1048576) (hs9 : s.size ≤ 9223372036854775807) (hv : certValid true a s = false) :
    Calls Try.prog 7 #[.agg #[.int .i64 0, .int .i64 a.al, .slice A n c, .slice A' n' c', .string s, .int .i64 ro]] w (RetCof w false aut0 ⟨#[]⟩ false) := by
  have Hv := hide hv
  clear hv
  have HS := hide (fun W (hW : Ext w W) => h.ext hW)
  have hss := hs
  clear h
  go_enter Try.func7, Try.ntmps7
  obtain ⟨b1, bz⟩ := ext_blk2 (Ext.refl ((w.alloc (.cells #[.int .i64 0, .int .i64 a.al, .slice A n c, .slice A' n' c', .string s, .int .i64 ro] 35)).alloc (.cells #[.bool false, .int .i64 0, .slice none 0 0, .slice none 0 0, .string ⟨#[]⟩] 31)))
  have hw2 : Ext w ((w.alloc (.cells #[.int .i64 0, .int .i64 a.al, .slice A n c, .slice A' n' c', .string s, .int .i64 ro] 35)).alloc (.cells #[.bool false, .int .i64 0, .slice none 0 0, .slice none 0 0, .string ⟨#[]⟩] 31)) := ((Ext.refl w).alloc _).alloc _
  have hsz2 : w.heap.size + 2 = ((w.alloc (.cells #[.int .i64 0, .int .i64 a.al, .slice A n c, .slice A' n' c', .string s, .int .i64 ro] 35)).alloc (.cells #[.bool false, .int .i64 0, .slice none 0 0, .slice none 0 0, .string ⟨#[]⟩] 31)).heap.size := by simp
  have k1 := b1.cell
  go_upto_region 3 with fail
  generalize (w.alloc (.cells #[.int .i64 0, .int .i64 a.al, .slice A n c, .slice A' n' c', .string s, .int .i64 ro] 35)).alloc (.cells #[.bool false, .int .i64 0, .slice none 0 0, .slice none 0 0, .string ⟨#[]⟩] 31) = w2 at *
  clear k1
  go_cut [4] (fun v wx => ∃ G B m d B' m' d', v = .pointer (some ⟨G, 0, none⟩) ∧ NewC w2 wx G true a s B m d B' m' d')
  case first =>
    have c1 := fun W (hW : Ext w2 W) => (b1.ext hW).cell
    have hww := Ext.refl w2
    refine wp_region_tailU (fun X => Ext w2 X) [10] (OrdU.app [0, 1, 2, 3, 4, 6, 7] (OrdU.two 5 (OrdU.of [8, 9, 10]) 9 (OrdU.of [5, 8, 10]))) (by kernel_rfl) (by kernel_rfl) (by kernel_rfl) (by kernel_rfl) (by kernel_rfl) (fun _ _ _ _ _ h => h) (by first | assumption | exact (Ext.refl _).drew | (refine Ext.drew ?_; assumption)) ?_
    repeat (first | (refine useq_skip rfl rfl (by assumption) ?_; simp only [Act.put, List.setIfInBounds_toArray, List.set_cons_zero, List.set_cons_succ]) | (refine useq_pure (v := ?_) rfl rfl rfl rfl (fun X => ?_) ?_; rotate_left; (focus (go_simp <;> with_reducible rfl)); simp only [Act.put, List.setIfInBounds_toArray, List.set_cons_zero, List.set_cons_succ]) | (refine useq_read (v := ?_) rfl rfl rfl rfl (fun X hX => ?_) ?_; rotate_left; (focus (go_simp <;> with_reducible rfl)); simp only [Act.put, List.setIfInBounds_toArray, List.set_cons_zero, List.set_cons_succ]))
    have hx0 : Ext w2 w2.drew := hww.drew
    generalize w2.drew = wd at *
    refine useq_both rfl rfl rfl rfl (fun K hK => ?_) (fun K hK => ?_)
    · go_simp
      refine (impl_copyAutomaton (HS.out _ (hw2.trans hx0)) hs).mono ?_
      rintro e w4 ⟨B, m, d, B', m', d', rfl, own4, hx4⟩
      replace own4 := own4.less hx0.size
      replace hx0 := hx0.trans hx4
      refine hK.out _ _ hx0 ?_
      (try simp only [Act.put, List.setIfInBounds_toArray, List.set_cons_zero, List.set_cons_succ])
      repeat (first | (refine useq_skip rfl rfl (by assumption) ?_; simp only [Act.put, List.setIfInBounds_toArray, List.set_cons_zero, List.set_cons_succ]) | (refine useq_pure (v := ?_) rfl rfl rfl rfl (fun X => ?_) ?_; rotate_left; (focus (go_simp <;> with_reducible rfl)); simp only [Act.put, List.setIfInBounds_toArray, List.set_cons_zero, List.set_cons_succ]) | (refine useq_read (v := ?_) rfl rfl rfl rfl (fun X hX => ?_) ?_; rotate_left; (focus (go_simp <;> with_reducible rfl)); simp only [Act.put, List.setIfInBounds_toArray, List.set_cons_zero, List.set_cons_succ]))
      (refine useq_step rfl rfl rfl (fun K hK => ?_); go_simp)
      have hx1 := (Ext.refl w4).alloc (.cells #[.bool false, .int .i64 0, .slice none 0 0, .slice none 0 0, .string ⟨#[]⟩] 31)
      have hb := Blk.new w4 31 #[.bool false, .int .i64 0, .slice none 0 0, .slice none 0 0, .string ⟨#[]⟩]
      have hG := hx0.size
      replace own4 := own4.ext hx1
      replace hx0 := hx0.trans hx1
      refine hK.out _ _ hx0 ?_
      generalize w4.alloc (.cells #[.bool false, .int .i64 0, .slice none 0 0, .slice none 0 0, .string ⟨#[]⟩] 31) = wg at *
      generalize w4.heap.size = G at *
      (try simp only [Act.put, List.setIfInBounds_toArray, List.set_cons_zero, List.set_cons_succ])
      repeat (first | (refine useq_skip rfl rfl (by assumption) ?_; simp only [Act.put, List.setIfInBounds_toArray, List.set_cons_zero, List.set_cons_succ]) | (refine useq_pure (v := ?_) rfl rfl rfl rfl (fun X => ?_) ?_; rotate_left; (focus (go_simp <;> with_reducible rfl)); simp only [Act.put, List.setIfInBounds_toArray, List.set_cons_zero, List.set_cons_succ]) | (refine useq_read (v := ?_) rfl rfl rfl rfl (fun X hX => ?_) ?_; rotate_left; (focus (go_simp <;> with_reducible rfl)); simp only [Act.put, List.setIfInBounds_toArray, List.set_cons_zero, List.set_cons_succ]))
      have cG := hb.cell
      have fG := hb.frozen
      (refine useq_last rfl rfl rfl rfl (fun K hK => ?_))
      go_simp
      refine hK.out _ _ ?_
      refine useq_nil ?_
      have hfl := fill5_frm wg G (.bool true) (.int .i64 a.al) (.slice B m d) (.slice B' m' d') (.string s)
      have hfin : NewC w2 (((((wg.setCell ⟨G, 0, none⟩ (.bool true)).setCell ⟨G, 1, none⟩ (.int .i64 a.al)).setCell ⟨G, 2, none⟩ (.slice B m d)).setCell ⟨G, 3, none⟩ (.slice B' m' d')).setCell ⟨G, 4, none⟩ (.string s)) G true a s B m d B' m' d' := ⟨fill5_blk hb rfl _ _ _ _ _, own4.own_far5 hb hfl, hx0.frm hfl (fun k hk e => by omega), hG⟩
      go_wp2_with fail
      go_meet
      exact ⟨G, _, _, _, _, _, _, rfl, hfin⟩
    · go_simp
      have hx1 := (Ext.refl wd).alloc (.cells #[.bool false, .int .i64 0, .slice none 0 0, .slice none 0 0, .string ⟨#[]⟩] 31)
      have hb := Blk.new wd 31 #[.bool false, .int .i64 0, .slice none 0 0, .slice none 0 0, .string ⟨#[]⟩]
      have hG := hx0.size
      replace hx0 := hx0.trans hx1
      refine hK.out _ _ hx0 ?_
      generalize wd.alloc (.cells #[.bool false, .int .i64 0, .slice none 0 0, .slice none 0 0, .string ⟨#[]⟩] 31) = wg at *
      generalize wd.heap.size = G at *
      (try simp only [Act.put, List.setIfInBounds_toArray, List.set_cons_zero, List.set_cons_succ])
      repeat (first | (refine useq_skip rfl rfl (by assumption) ?_; simp only [Act.put, List.setIfInBounds_toArray, List.set_cons_zero, List.set_cons_succ]) | (refine useq_pure (v := ?_) rfl rfl rfl rfl (fun X => ?_) ?_; rotate_left; (focus (go_simp <;> with_reducible rfl)); simp only [Act.put, List.setIfInBounds_toArray, List.set_cons_zero, List.set_cons_succ]) | (refine useq_read (v := ?_) rfl rfl rfl rfl (fun X hX => ?_) ?_; rotate_left; (focus (go_simp <;> with_reducible rfl)); simp only [Act.put, List.setIfInBounds_toArray, List.set_cons_zero, List.set_cons_succ]))
      (refine useq_step rfl rfl rfl (fun K hK => ?_); go_simp)
      refine (impl_copyAutomaton (HS.out _ (hw2.trans hx0)) hs).mono ?_
      rintro e w4 ⟨B, m, d, B', m', d', rfl, own4, hx4⟩
      replace own4 := own4.less hx0.size
      replace hb := hb.ext hx4
      replace hx0 := hx0.trans hx4
      refine hK.out _ _ hx0 ?_
      (try simp only [Act.put, List.setIfInBounds_toArray, List.set_cons_zero, List.set_cons_succ])
      repeat (first | (refine useq_skip rfl rfl (by assumption) ?_; simp only [Act.put, List.setIfInBounds_toArray, List.set_cons_zero, List.set_cons_succ]) | (refine useq_pure (v := ?_) rfl rfl rfl rfl (fun X => ?_) ?_; rotate_left; (focus (go_simp <;> with_reducible rfl)); simp only [Act.put, List.setIfInBounds_toArray, List.set_cons_zero, List.set_cons_succ]) | (refine useq_read (v := ?_) rfl rfl rfl rfl (fun X hX => ?_) ?_; rotate_left; (focus (go_simp <;> with_reducible rfl)); simp only [Act.put, List.setIfInBounds_toArray, List.set_cons_zero, List.set_cons_succ]))
      have cG := hb.cell
      have fG := hb.frozen
      (refine useq_last rfl rfl rfl rfl (fun K hK => ?_))
      go_simp
      refine hK.out _ _ ?_
      refine useq_nil ?_
      have hfl := fill5_frm w4 G (.bool true) (.int .i64 a.al) (.slice B m d) (.slice B' m' d') (.string s)
      have hfin : NewC w2 (((((w4.setCell ⟨G, 0, none⟩ (.bool true)).setCell ⟨G, 1, none⟩ (.int .i64 a.al)).setCell ⟨G, 2, none⟩ (.slice B m d)).setCell ⟨G, 3, none⟩ (.slice B' m' d')).setCell ⟨G, 4, none⟩ (.string s)) G true a s B m d B' m' d' := ⟨fill5_blk hb rfl _ _ _ _ _, own4.own_far5 hb hfl, hx0.frm hfl (fun k hk e => by omega), hG⟩
      go_wp2_with fail
      go_meet
      exact ⟨G, _, _, _, _, _, _, rfl, hfin⟩
  case rest =>
    obtain ⟨G, B, m, d, B', m', d', rfl, hb, own4, hx2, hG⟩ := hcut
    have kG := hb.cell
    have k1 := (b1.ext hx2).cell
    go_wp2_with fail
    refine (impl_CertificateValid _ _ _ _ _ _ _ _ _ _ _ _ own4.reads hs9).mono ?_
    rw [Hv.out]
    rintro e w5 ⟨rfl, hx5⟩
    clear kG k1
    replace hb := hb.ext hx5
    replace own4 := own4.ext hx5
    replace hx2 := hx2.trans hx5
    have kG := hb.cell
    have k1 := (b1.ext hx2).cell
    have hbz := bz.ext hx2
    have cZ := hbz.cell
    have fZ := hbz.frozen
    have hfl := fill5_frm w5 (w.heap.size + 1) (.bool false) (.int .i64 0) (.slice none 0 0) (.slice none 0 0) (.string ⟨#[]⟩)
    have hbf := fill5_blk hbz rfl (.bool false) (.int .i64 0) (.slice none 0 0) (.slice none 0 0) (.string ⟨#[]⟩)
    have hxf := (hw2.trans hx2).frm hfl (fun k hk e => by omega)
    have hfin := hide (show RetCof w false aut0 ⟨#[]⟩ false (.returned (.tuple #[.agg #[.bool false, .int .i64 0, .slice none 0 0, .slice none 0 0, .string ⟨#[]⟩], .bool false])) (((((w5.setCell ⟨w.heap.size + 1, 0, none⟩ (.bool false)).setCell ⟨w.heap.size + 1, 1, none⟩ (.int .i64 0)).setCell ⟨w.heap.size + 1, 2, none⟩ (.slice none 0 0)).setCell ⟨w.heap.size + 1, 3, none⟩ (.slice none 0 0)).setCell ⟨w.heap.size + 1, 4, none⟩ (.string ⟨#[]⟩)) from ⟨none, 0, 0, none, 0, 0, rfl, own_aut0 _ _, hxf⟩)
    go_wp2_with fail
    generalize (((((w5.setCell ⟨w.heap.size + 1, 0, none⟩ (.bool false)).setCell ⟨w.heap.size + 1, 1, none⟩ (.int .i64 0)).setCell ⟨w.heap.size + 1, 2, none⟩ (.slice none 0 0)).setCell ⟨w.heap.size + 1, 3, none⟩ (.slice none 0 0)).setCell ⟨w.heap.size + 1, 4, none⟩ (.string ⟨#[]⟩)) = wf at *
    have cf := hbf.cell
    exact bodyPost_ret (v := .tuple #[.agg #[.bool false, .int .i64 0, .slice none 0 0, .slice none 0 0, .string ⟨#[]⟩], .bool false]) (by simp [results, Try.results7, go_sem, cf]) rfl hfin.out
set_option maxRecDepth 100000 in
theorem spec_CertificateOf0t {lo hi : Nat} {A : Option Addr} {n c : Nat} {A' : Option Addr} {n' c' : Nat} {ro : Int} {a : Aut} {s : ByteArray} {w : World} (h : AutAt w lo hi A n A' n' a) (hs : a.size ≤ 1048576) (hs9 : s.size ≤ 9223372036854775807) (hv : certValid true a s = true) :
    Calls Try.prog 5 #[.agg #[.int .i64 0, .int .i64 a.al, .slice A n c, .slice A' n' c', .string s, .int .i64 ro]] w (RetCof w true a s true) := by
  have Hv := hide hv
  clear hv
  have HS := hide (fun W (hW : Ext w W) => h.ext hW)
  have hss := hs
  clear h
  go_enter Try.func5, Try.ntmps5
  obtain ⟨b1, bz⟩ := ext_blk2 (Ext.refl ((w.alloc (.cells #[.int .i64 0, .int .i64 a.al, .slice A n c, .slice A' n' c', .string s, .int .i64 ro] 35)).alloc (.cells #[.bool false, .int .i64 0, .slice none 0 0, .slice none 0 0, .string ⟨#[]⟩] 31)))
  have hw2 : Ext w ((w.alloc (.cells #[.int .i64 0, .int .i64 a.al, .slice A n c, .slice A' n' c', .string s, .int .i64 ro] 35)).alloc (.cells #[.bool false, .int .i64 0, .slice none 0 0, .slice none 0 0, .string ⟨#[]⟩] 31)) := ((Ext.refl w).alloc _).alloc _
  have hsz2 : w.heap.size + 2 = ((w.alloc (.cells #[.int .i64 0, .int .i64 a.al, .slice A n c, .slice A' n' c', .string s, .int .i64 ro] 35)).alloc (.cells #[.bool false, .int .i64 0, .slice none 0 0, .slice none 0 0, .string ⟨#[]⟩] 31)).heap.size := by simp
  go_upto_region 1 with fail
  generalize (w.alloc (.cells #[.int .i64 0, .int .i64 a.al, .slice A n c, .slice A' n' c', .string s, .int .i64 ro] 35)).alloc (.cells #[.bool false, .int .i64 0, .slice none 0 0, .slice none 0 0, .string ⟨#[]⟩] 31) = w2 at *
  go_cut [4] (fun v wx => ∃ G B m d B' m' d', v = .pointer (some ⟨G, 0, none⟩) ∧ NewC w2 wx G true a s B m d B' m' d')
  case first =>
    have c1 := fun W (hW : Ext w2 W) => (b1.ext hW).cell
    have hww := Ext.refl w2
    refine wp_region_tailU (fun X => Ext w2 X) [10] (OrdU.app [0, 1, 2, 3, 4, 6, 7] (OrdU.two 5 (OrdU.of [8, 9, 10]) 9 (OrdU.of [5, 8, 10]))) (by kernel_rfl) (by kernel_rfl) (by kernel_rfl) (by kernel_rfl) (by kernel_rfl) (fun _ _ _ _ _ h => h) (by first | assumption | exact (Ext.refl _).drew | (refine Ext.drew ?_; assumption)) ?_
    repeat (first | (refine useq_skip rfl rfl (by assumption) ?_; simp only [Act.put, List.setIfInBounds_toArray, List.set_cons_zero, List.set_cons_succ]) | (refine useq_pure (v := ?_) rfl rfl rfl rfl (fun X => ?_) ?_; rotate_left; (focus (go_simp <;> with_reducible rfl)); simp only [Act.put, List.setIfInBounds_toArray, List.set_cons_zero, List.set_cons_succ]) | (refine useq_read (v := ?_) rfl rfl rfl rfl (fun X hX => ?_) ?_; rotate_left; (focus (go_simp <;> with_reducible rfl)); simp only [Act.put, List.setIfInBounds_toArray, List.set_cons_zero, List.set_cons_succ]))
    have hx0 : Ext w2 w2.drew := hww.drew
    generalize w2.drew = wd at *
    refine useq_both rfl rfl rfl rfl (fun K hK => ?_) (fun K hK => ?_)
    · go_simp
      refine (spec_l3Copy (HS.out _ (hw2.trans hx0)) hs).mono ?_
      rintro e w4 ⟨B, m, d, B', m', d', rfl, own4, hx4⟩
      replace own4 := own4.less hx0.size
      replace hx0 := hx0.trans hx4
      refine hK.out _ _ hx0 ?_
      (try simp only [Act.put, List.setIfInBounds_toArray, List.set_cons_zero, List.set_cons_succ])
      repeat (first | (refine useq_skip rfl rfl (by assumption) ?_; simp only [Act.put, List.setIfInBounds_toArray, List.set_cons_zero, List.set_cons_succ]) | (refine useq_pure (v := ?_) rfl rfl rfl rfl (fun X => ?_) ?_; rotate_left; (focus (go_simp <;> with_reducible rfl)); simp only [Act.put, List.setIfInBounds_toArray, List.set_cons_zero, List.set_cons_succ]) | (refine useq_read (v := ?_) rfl rfl rfl rfl (fun X hX => ?_) ?_; rotate_left; (focus (go_simp <;> with_reducible rfl)); simp only [Act.put, List.setIfInBounds_toArray, List.set_cons_zero, List.set_cons_succ]))
      (refine useq_step rfl rfl rfl (fun K hK => ?_); go_simp)
      have hx1 := (Ext.refl w4).alloc (.cells #[.bool false, .int .i64 0, .slice none 0 0, .slice none 0 0, .string ⟨#[]⟩] 31)
      have hb := Blk.new w4 31 #[.bool false, .int .i64 0, .slice none 0 0, .slice none 0 0, .string ⟨#[]⟩]
      have hG := hx0.size
      replace own4 := own4.ext hx1
      replace hx0 := hx0.trans hx1
      refine hK.out _ _ hx0 ?_
      generalize w4.alloc (.cells #[.bool false, .int .i64 0, .slice none 0 0, .slice none 0 0, .string ⟨#[]⟩] 31) = wg at *
      generalize w4.heap.size = G at *
      (try simp only [Act.put, List.setIfInBounds_toArray, List.set_cons_zero, List.set_cons_succ])
      repeat (first | (refine useq_skip rfl rfl (by assumption) ?_; simp only [Act.put, List.setIfInBounds_toArray, List.set_cons_zero, List.set_cons_succ]) | (refine useq_pure (v := ?_) rfl rfl rfl rfl (fun X => ?_) ?_; rotate_left; (focus (go_simp <;> with_reducible rfl)); simp only [Act.put, List.setIfInBounds_toArray, List.set_cons_zero, List.set_cons_succ]) | (refine useq_read (v := ?_) rfl rfl rfl rfl (fun X hX => ?_) ?_; rotate_left; (focus (go_simp <;> with_reducible rfl)); simp only [Act.put, List.setIfInBounds_toArray, List.set_cons_zero, List.set_cons_succ]))
      have cG := hb.cell
      have fG := hb.frozen
      (refine useq_last rfl rfl rfl rfl (fun K hK => ?_))
      go_simp
      refine hK.out _ _ ?_
      refine useq_nil ?_
      have hfl := fill5_frm wg G (.bool true) (.int .i64 a.al) (.slice B m d) (.slice B' m' d') (.string s)
      have hfin : NewC w2 (((((wg.setCell ⟨G, 0, none⟩ (.bool true)).setCell ⟨G, 1, none⟩ (.int .i64 a.al)).setCell ⟨G, 2, none⟩ (.slice B m d)).setCell ⟨G, 3, none⟩ (.slice B' m' d')).setCell ⟨G, 4, none⟩ (.string s)) G true a s B m d B' m' d' := ⟨fill5_blk hb rfl _ _ _ _ _, own4.own_far5 hb hfl, hx0.frm hfl (fun k hk e => by omega), hG⟩
      go_wp2_with fail
      go_meet
      exact ⟨G, _, _, _, _, _, _, rfl, hfin⟩
    · go_simp
      have hx1 := (Ext.refl wd).alloc (.cells #[.bool false, .int .i64 0, .slice none 0 0, .slice none 0 0, .string ⟨#[]⟩] 31)
      have hb := Blk.new wd 31 #[.bool false, .int .i64 0, .slice none 0 0, .slice none 0 0, .string ⟨#[]⟩]
      have hG := hx0.size
      replace hx0 := hx0.trans hx1
      refine hK.out _ _ hx0 ?_
      generalize wd.alloc (.cells #[.bool false, .int .i64 0, .slice none 0 0, .slice none 0 0, .string ⟨#[]⟩] 31) = wg at *
      generalize wd.heap.size = G at *
      (try simp only [Act.put, List.setIfInBounds_toArray, List.set_cons_zero, List.set_cons_succ])
      repeat (first | (refine useq_skip rfl rfl (by assumption) ?_; simp only [Act.put, List.setIfInBounds_toArray, List.set_cons_zero, List.set_cons_succ]) | (refine useq_pure (v := ?_) rfl rfl rfl rfl (fun X => ?_) ?_; rotate_left; (focus (go_simp <;> with_reducible rfl)); simp only [Act.put, List.setIfInBounds_toArray, List.set_cons_zero, List.set_cons_succ]) | (refine useq_read (v := ?_) rfl rfl rfl rfl (fun X hX => ?_) ?_; rotate_left; (focus (go_simp <;> with_reducible rfl)); simp only [Act.put, List.setIfInBounds_toArray, List.set_cons_zero, List.set_cons_succ]))
      (refine useq_step rfl rfl rfl (fun K hK => ?_); go_simp)
      refine (spec_l3Copy (HS.out _ (hw2.trans hx0)) hs).mono ?_
      rintro e w4 ⟨B, m, d, B', m', d', rfl, own4, hx4⟩
      replace own4 := own4.less hx0.size
      replace hb := hb.ext hx4
      replace hx0 := hx0.trans hx4
      refine hK.out _ _ hx0 ?_
      (try simp only [Act.put, List.setIfInBounds_toArray, List.set_cons_zero, List.set_cons_succ])
      repeat (first | (refine useq_skip rfl rfl (by assumption) ?_; simp only [Act.put, List.setIfInBounds_toArray, List.set_cons_zero, List.set_cons_succ]) | (refine useq_pure (v := ?_) rfl rfl rfl rfl (fun X => ?_) ?_; rotate_left; (focus (go_simp <;> with_reducible rfl)); simp only [Act.put, List.setIfInBounds_toArray, List.set_cons_zero, List.set_cons_succ]) | (refine useq_read (v := ?_) rfl rfl rfl rfl (fun X hX => ?_) ?_; rotate_left; (focus (go_simp <;> with_reducible rfl)); simp only [Act.put, List.setIfInBounds_toArray, List.set_cons_zero, List.set_cons_succ]))
      have cG := hb.cell
      have fG := hb.frozen
      (refine useq_last rfl rfl rfl rfl (fun K hK => ?_))
      go_simp
      refine hK.out _ _ ?_
      refine useq_nil ?_
      have hfl := fill5_frm w4 G (.bool true) (.int .i64 a.al) (.slice B m d) (.slice B' m' d') (.string s)
      have hfin : NewC w2 (((((w4.setCell ⟨G, 0, none⟩ (.bool true)).setCell ⟨G, 1, none⟩ (.int .i64 a.al)).setCell ⟨G, 2, none⟩ (.slice B m d)).setCell ⟨G, 3, none⟩ (.slice B' m' d')).setCell ⟨G, 4, none⟩ (.string s)) G true a s B m d B' m' d' := ⟨fill5_blk hb rfl _ _ _ _ _, own4.own_far5 hb hfl, hx0.frm hfl (fun k hk e => by omega), hG⟩
      go_wp2_with fail
      go_meet
      exact ⟨G, _, _, _, _, _, _, rfl, hfin⟩
  case rest =>
    obtain ⟨G, B, m, d, B', m', d', rfl, hb, own4, hx2, hG⟩ := hcut
    have kG := hb.cell
    have k1 := (b1.ext hx2).cell
    go_wp2_with fail
    refine (spec_CertificateValid _ _ _ _ _ _ _ _ _ _ _ _ own4.reads hs9).mono ?_
    rw [Hv.out]
    rintro e w5 ⟨rfl, hx5⟩
    clear kG k1
    replace hb := hb.ext hx5
    replace own4 := own4.ext hx5
    replace hx2 := hx2.trans hx5
    have kG := hb.cell
    have k1 := (b1.ext hx2).cell
    have hbz := bz.ext hx2
    have cZ := hbz.cell
    have fZ := hbz.frozen
    have hfl := fill5_frm w5 (w.heap.size + 1) (.bool true) (.int .i64 a.al) (.slice B m d) (.slice B' m' d') (.string s)
    have hbf := fill5_blk hbz rfl (.bool true) (.int .i64 a.al) (.slice B m d) (.slice B' m' d') (.string s)
    have hxf := (hw2.trans hx2).frm hfl (fun k hk e => by omega)
    have hfin := hide (show RetCof w true a s true (.returned (.tuple #[.agg #[.bool true, .int .i64 a.al, .slice B m d, .slice B' m' d', .string s], .bool true])) (((((w5.setCell ⟨w.heap.size + 1, 0, none⟩ (.bool true)).setCell ⟨w.heap.size + 1, 1, none⟩ (.int .i64 a.al)).setCell ⟨w.heap.size + 1, 2, none⟩ (.slice B m d)).setCell ⟨w.heap.size + 1, 3, none⟩ (.slice B' m' d')).setCell ⟨w.heap.size + 1, 4, none⟩ (.string s)) from ⟨B, m, d, B', m', d', rfl, (own4.keep hfl (fun b h1 e => by omega)).less (by omega), hxf⟩)
    go_wp2_with fail
    generalize (((((w5.setCell ⟨w.heap.size + 1, 0, none⟩ (.bool true)).setCell ⟨w.heap.size + 1, 1, none⟩ (.int .i64 a.al)).setCell ⟨w.heap.size + 1, 2, none⟩ (.slice B m d)).setCell ⟨w.heap.size + 1, 3, none⟩ (.slice B' m' d')).setCell ⟨w.heap.size + 1, 4, none⟩ (.string s)) = wf at *
    have cf := hbf.cell
    exact bodyPost_ret (v := .tuple #[.agg #[.bool true, .int .i64 a.al, .slice B m d, .slice B' m' d', .string s], .bool true]) (by simp [results, Try.results5, go_sem, cf]) rfl hfin.out
set_option maxRecDepth 100000 in
theorem spec_CertificateOf0f {lo hi : Nat} {A : Option Addr} {n c : Nat} {A' : Option Addr} {n' c' : Nat} {ro : Int} {a : Aut} {s : ByteArray} {w : World} (h : AutAt w lo hi A n A' n' a) (hs : a.size ≤ 1048576) (hs9 : s.size ≤ 9223372036854775807) (hv : certValid true a s = false) :
    Calls Try.prog 5 #[.agg #[.int .i64 0, .int .i64 a.al, .slice A n c, .slice A' n' c', .string s, .int .i64 ro]] w (RetCof w false aut0 ⟨#[]⟩ false) := by
  have Hv := hide hv
  clear hv
  have HS := hide (fun W (hW : Ext w W) => h.ext hW)
  have hss := hs
  clear h
  go_enter Try.func5, Try.ntmps5
  obtain ⟨b1, bz⟩ := ext_blk2 (Ext.refl ((w.alloc (.cells #[.int .i64 0, .int .i64 a.al, .slice A n c, .slice A' n' c', .string s, .int .i64 ro] 35)).alloc (.cells #[.bool false, .int .i64 0, .slice none 0 0, .slice none 0 0, .string ⟨#[]⟩] 31)))
  have hw2 : Ext w ((w.alloc (.cells #[.int .i64 0, .int .i64 a.al, .slice A n c, .slice A' n' c', .string s, .int .i64 ro] 35)).alloc (.cells #[.bool false, .int .i64 0, .slice none 0 0, .slice none 0 0, .string ⟨#[]⟩] 31)) := ((Ext.refl w).alloc _).alloc _
  have hsz2 : w.heap.size + 2 = ((w.alloc (.cells #[.int .i64 0, .int .i64 a.al, .slice A n c, .slice A' n' c', .string s, .int .i64 ro] 35)).alloc (.cells #[.bool false, .int .i64 0, .slice none 0 0, .slice none 0 0, .string ⟨#[]⟩] 31)).heap.size := by simp
  go_upto_region 1 with fail
  generalize (w.alloc (.cells #[.int .i64 0, .int .i64 a.al, .slice A n c, .slice A' n' c', .string s, .int .i64 ro] 35)).alloc (.cells #[.bool false, .int .i64 0, .slice none 0 0, .slice none 0 0, .string ⟨#[]⟩] 31) = w2 at *
  go_cut [4] (fun v wx => ∃ G B m d B' m' d', v = .pointer (some ⟨G, 0, none⟩) ∧ NewC w2 wx G true a s B m d B' m' d')
  case first =>
    have c1 := fun W (hW : Ext w2 W) => (b1.ext hW).cell
    have hww := Ext.refl w2
    refine wp_region_tailU (fun X => Ext w2 X) [10] (OrdU.app [0, 1, 2, 3, 4, 6, 7] (OrdU.two 5 (OrdU.of [8, 9, 10]) 9 (OrdU.of [5, 8, 10]))) (by kernel_rfl) (by kernel_rfl) (by kernel_rfl) (by kernel_rfl) (by kernel_rfl) (fun _ _ _ _ _ h => h) (by first | assumption | exact (Ext.refl _).drew | (refine Ext.drew ?_; assumption)) ?_
    repeat (first | (refine useq_skip rfl rfl (by assumption) ?_; simp only [Act.put, List.setIfInBounds_toArray, List.set_cons_zero, List.set_cons_succ]) | (refine useq_pure (v := ?_) rfl rfl rfl rfl (fun X => ?_) ?_; rotate_left; (focus (go_simp <;> with_reducible rfl)); simp only [Act.put, List.setIfInBounds_toArray, List.set_cons_zero, List.set_cons_succ]) | (refine useq_read (v := ?_) rfl rfl rfl rfl (fun X hX => ?_) ?_; rotate_left; (focus (go_simp <;> with_reducible rfl)); simp only [Act.put, List.setIfInBounds_toArray, List.set_cons_zero, List.set_cons_succ]))
    have hx0 : Ext w2 w2.drew := hww.drew
    generalize w2.drew = wd at *
    refine useq_both rfl rfl rfl rfl (fun K hK => ?_) (fun K hK => ?_)
    · go_simp
      refine (spec_l3Copy (HS.out _ (hw2.trans hx0)) hs).mono ?_
      rintro e w4 ⟨B, m, d, B', m', d', rfl, own4, hx4⟩
      replace own4 := own4.less hx0.size
      replace hx0 := hx0.trans hx4
      refine hK.out _ _ hx0 ?_
      (try simp only [Act.put, List.setIfInBounds_toArray, List.set_cons_zero, List.set_cons_succ])
      repeat (first | (refine useq_skip rfl rfl (by assumption) ?_; simp only [Act.put, List.setIfInBounds_toArray, List.set_cons_zero, List.set_cons_succ]) | (refine useq_pure (v := ?_) rfl rfl rfl rfl (fun X => ?_) ?_; rotate_left; (focus (go_simp <;> with_reducible rfl)); simp only [Act.put, List.setIfInBounds_toArray, List.set_cons_zero, List.set_cons_succ]) | (refine useq_read (v := ?_) rfl rfl rfl rfl (fun X hX => ?_) ?_; rotate_left; (focus (go_simp <;> with_reducible rfl)); simp only [Act.put, List.setIfInBounds_toArray, List.set_cons_zero, List.set_cons_succ]))
      (refine useq_step rfl rfl rfl (fun K hK => ?_); go_simp)
      have hx1 := (Ext.refl w4).alloc (.cells #[.bool false, .int .i64 0, .slice none 0 0, .slice none 0 0, .string ⟨#[]⟩] 31)
      have hb := Blk.new w4 31 #[.bool false, .int .i64 0, .slice none 0 0, .slice none 0 0, .string ⟨#[]⟩]
      have hG := hx0.size
      replace own4 := own4.ext hx1
      replace hx0 := hx0.trans hx1
      refine hK.out _ _ hx0 ?_
      generalize w4.alloc (.cells #[.bool false, .int .i64 0, .slice none 0 0, .slice none 0 0, .string ⟨#[]⟩] 31) = wg at *
      generalize w4.heap.size = G at *
      (try simp only [Act.put, List.setIfInBounds_toArray, List.set_cons_zero, List.set_cons_succ])
      repeat (first | (refine useq_skip rfl rfl (by assumption) ?_; simp only [Act.put, List.setIfInBounds_toArray, List.set_cons_zero, List.set_cons_succ]) | (refine useq_pure (v := ?_) rfl rfl rfl rfl (fun X => ?_) ?_; rotate_left; (focus (go_simp <;> with_reducible rfl)); simp only [Act.put, List.setIfInBounds_toArray, List.set_cons_zero, List.set_cons_succ]) | (refine useq_read (v := ?_) rfl rfl rfl rfl (fun X hX => ?_) ?_; rotate_left; (focus (go_simp <;> with_reducible rfl)); simp only [Act.put, List.setIfInBounds_toArray, List.set_cons_zero, List.set_cons_succ]))
      have cG := hb.cell
      have fG := hb.frozen
      (refine useq_last rfl rfl rfl rfl (fun K hK => ?_))
      go_simp
      refine hK.out _ _ ?_
      refine useq_nil ?_
      have hfl := fill5_frm wg G (.bool true) (.int .i64 a.al) (.slice B m d) (.slice B' m' d') (.string s)
      have hfin : NewC w2 (((((wg.setCell ⟨G, 0, none⟩ (.bool true)).setCell ⟨G, 1, none⟩ (.int .i64 a.al)).setCell ⟨G, 2, none⟩ (.slice B m d)).setCell ⟨G, 3, none⟩ (.slice B' m' d')).setCell ⟨G, 4, none⟩ (.string s)) G true a s B m d B' m' d' := ⟨fill5_blk hb rfl _ _ _ _ _, own4.own_far5 hb hfl, hx0.frm hfl (fun k hk e => by omega), hG⟩
      go_wp2_with fail
      go_meet
      exact ⟨G, _, _, _, _, _, _, rfl, hfin⟩
    · go_simp
      have hx1 := (Ext.refl wd).alloc (.cells #[.bool false, .int .i64 0, .slice none 0 0, .slice none 0 0, .string ⟨#[]⟩] 31)
      have hb := Blk.new wd 31 #[.bool false, .int .i64 0, .slice none 0 0, .slice none 0 0, .string ⟨#[]⟩]
      have hG := hx0.size
      replace hx0 := hx0.trans hx1
      refine hK.out _ _ hx0 ?_
      generalize wd.alloc (.cells #[.bool false, .int .i64 0, .slice none 0 0, .slice none 0 0, .string ⟨#[]⟩] 31) = wg at *
      generalize wd.heap.size = G at *
      (try simp only [Act.put, List.setIfInBounds_toArray, List.set_cons_zero, List.set_cons_succ])
      repeat (first | (refine useq_skip rfl rfl (by assumption) ?_; simp only [Act.put, List.setIfInBounds_toArray, List.set_cons_zero, List.set_cons_succ]) | (refine useq_pure (v := ?_) rfl rfl rfl rfl (fun X => ?_) ?_; rotate_left; (focus (go_simp <;> with_reducible rfl)); simp only [Act.put, List.setIfInBounds_toArray, List.set_cons_zero, List.set_cons_succ]) | (refine useq_read (v := ?_) rfl rfl rfl rfl (fun X hX => ?_) ?_; rotate_left; (focus (go_simp <;> with_reducible rfl)); simp only [Act.put, List.setIfInBounds_toArray, List.set_cons_zero, List.set_cons_succ]))
      (refine useq_step rfl rfl rfl (fun K hK => ?_); go_simp)
      refine (spec_l3Copy (HS.out _ (hw2.trans hx0)) hs).mono ?_
      rintro e w4 ⟨B, m, d, B', m', d', rfl, own4, hx4⟩
      replace own4 := own4.less hx0.size
      replace hb := hb.ext hx4
      replace hx0 := hx0.trans hx4
      refine hK.out _ _ hx0 ?_
      (try simp only [Act.put, List.setIfInBounds_toArray, List.set_cons_zero, List.set_cons_succ])
      repeat (first | (refine useq_skip rfl rfl (by assumption) ?_; simp only [Act.put, List.setIfInBounds_toArray, List.set_cons_zero, List.set_cons_succ]) | (refine useq_pure (v := ?_) rfl rfl rfl rfl (fun X => ?_) ?_; rotate_left; (focus (go_simp <;> with_reducible rfl)); simp only [Act.put, List.setIfInBounds_toArray, List.set_cons_zero, List.set_cons_succ]) | (refine useq_read (v := ?_) rfl rfl rfl rfl (fun X hX => ?_) ?_; rotate_left; (focus (go_simp <;> with_reducible rfl)); simp only [Act.put, List.setIfInBounds_toArray, List.set_cons_zero, List.set_cons_succ]))
      have cG := hb.cell
      have fG := hb.frozen
      (refine useq_last rfl rfl rfl rfl (fun K hK => ?_))
      go_simp
      refine hK.out _ _ ?_
      refine useq_nil ?_
      have hfl := fill5_frm w4 G (.bool true) (.int .i64 a.al) (.slice B m d) (.slice B' m' d') (.string s)
      have hfin : NewC w2 (((((w4.setCell ⟨G, 0, none⟩ (.bool true)).setCell ⟨G, 1, none⟩ (.int .i64 a.al)).setCell ⟨G, 2, none⟩ (.slice B m d)).setCell ⟨G, 3, none⟩ (.slice B' m' d')).setCell ⟨G, 4, none⟩ (.string s)) G true a s B m d B' m' d' := ⟨fill5_blk hb rfl _ _ _ _ _, own4.own_far5 hb hfl, hx0.frm hfl (fun k hk e => by omega), hG⟩
      go_wp2_with fail
      go_meet
      exact ⟨G, _, _, _, _, _, _, rfl, hfin⟩
  case rest =>
    obtain ⟨G, B, m, d, B', m', d', rfl, hb, own4, hx2, hG⟩ := hcut
    have kG := hb.cell
    have k1 := (b1.ext hx2).cell
    go_wp2_with fail
    refine (spec_CertificateValid _ _ _ _ _ _ _ _ _ _ _ _ own4.reads hs9).mono ?_
    rw [Hv.out]
    rintro e w5 ⟨rfl, hx5⟩
    clear kG k1
    replace hb := hb.ext hx5
    replace own4 := own4.ext hx5
    replace hx2 := hx2.trans hx5
    have kG := hb.cell
    have k1 := (b1.ext hx2).cell
    have hbz := bz.ext hx2
    have cZ := hbz.cell
    have fZ := hbz.frozen
    have hfl := fill5_frm w5 (w.heap.size + 1) (.bool false) (.int .i64 0) (.slice none 0 0) (.slice none 0 0) (.string ⟨#[]⟩)
    have hbf := fill5_blk hbz rfl (.bool false) (.int .i64 0) (.slice none 0 0) (.slice none 0 0) (.string ⟨#[]⟩)
    have hxf := (hw2.trans hx2).frm hfl (fun k hk e => by omega)
    have hfin := hide (show RetCof w false aut0 ⟨#[]⟩ false (.returned (.tuple #[.agg #[.bool false, .int .i64 0, .slice none 0 0, .slice none 0 0, .string ⟨#[]⟩], .bool false])) (((((w5.setCell ⟨w.heap.size + 1, 0, none⟩ (.bool false)).setCell ⟨w.heap.size + 1, 1, none⟩ (.int .i64 0)).setCell ⟨w.heap.size + 1, 2, none⟩ (.slice none 0 0)).setCell ⟨w.heap.size + 1, 3, none⟩ (.slice none 0 0)).setCell ⟨w.heap.size + 1, 4, none⟩ (.string ⟨#[]⟩)) from ⟨none, 0, 0, none, 0, 0, rfl, own_aut0 _ _, hxf⟩)
    go_wp2_with fail
    generalize (((((w5.setCell ⟨w.heap.size + 1, 0, none⟩ (.bool false)).setCell ⟨w.heap.size + 1, 1, none⟩ (.int .i64 0)).setCell ⟨w.heap.size + 1, 2, none⟩ (.slice none 0 0)).setCell ⟨w.heap.size + 1, 3, none⟩ (.slice none 0 0)).setCell ⟨w.heap.size + 1, 4, none⟩ (.string ⟨#[]⟩)) = wf at *
    have cf := hbf.cell
    exact bodyPost_ret (v := .tuple #[.agg #[.bool false, .int .i64 0, .slice none 0 0, .slice none 0 0, .string ⟨#[]⟩], .bool false]) (by simp [results, Try.results5, go_sem, cf]) rfl hfin.out
set_option maxRecDepth 100000 in
theorem impl_CertificateOf1t {lo hi : Nat} {A : Option Addr} {n c : Nat} {A' : Option Addr} {n' c' : Nat} {ro : Int} {a : Aut} {s : ByteArray} {w : World} (h : AutAt w lo hi A n A' n' a) (hs : a.size ≤ 1048576) (hs9 : s.size ≤ 9223372036854775807) (hv : certValid false a s = true) :
    Calls Try.prog 7 #[.agg #[.int .i64 1, .int .i64 a.al, .slice A n c, .slice A' n' c', .string s, .int .i64 ro]] w (RetCof w false a s true) := by
  have Hv := hide hv
  clear hv
  have HS := hide (fun W (hW : Ext w W) => h.ext hW)
  have hss := hs
  clear h
  go_enter Try.func7, Try.ntmps7
  obtain ⟨b1, bz⟩ := ext_blk2 (Ext.refl ((w.alloc (.cells #[.int .i64 1, .int .i64 a.al, .slice A n c, .slice A' n' c', .string s, .int .i64 ro] 35)).alloc (.cells #[.bool false, .int .i64 0, .slice none 0 0, .slice none 0 0, .string ⟨#[]⟩] 31)))
  have hw2 : Ext w ((w.alloc (.cells #[.int .i64 1, .int .i64 a.al, .slice A n c, .slice A' n' c', .string s, .int .i64 ro] 35)).alloc (.cells #[.bool false, .int .i64 0, .slice none 0 0, .slice none 0 0, .string ⟨#[]⟩] 31)) := ((Ext.refl w).alloc _).alloc _
  have hsz2 : w.heap.size + 2 = ((w.alloc (.cells #[.int .i64 1, .int .i64 a.al, .slice A n c, .slice A' n' c', .string s, .int .i64 ro] 35)).alloc (.cells #[.bool false, .int .i64 0, .slice none 0 0, .slice none 0 0, .string ⟨#[]⟩] 31)).heap.size := by simp
  have k1 := b1.cell
  go_upto_region 3 with fail
  generalize (w.alloc (.cells #[.int .i64 1, .int .i64 a.al, .slice A n c, .slice A' n' c', .string s, .int .i64 ro] 35)).alloc (.cells #[.bool false, .int .i64 0, .slice none 0 0, .slice none 0 0, .string ⟨#[]⟩] 31) = w2 at *
  clear k1
  go_cut [4] (fun v wx => ∃ G B m d B' m' d', v = .pointer (some ⟨G, 0, none⟩) ∧ NewC w2 wx G false a s B m d B' m' d')
  case first =>
    have c1 := fun W (hW : Ext w2 W) => (b1.ext hW).cell
    have hww := Ext.refl w2
    refine wp_region_tailU (fun X => Ext w2 X) [10] (OrdU.app [0, 1, 2, 3, 4, 6, 7] (OrdU.two 5 (OrdU.of [8, 9, 10]) 9 (OrdU.of [5, 8, 10]))) (by kernel_rfl) (by kernel_rfl) (by kernel_rfl) (by kernel_rfl) (by kernel_rfl) (fun _ _ _ _ _ h => h) (by first | assumption | exact (Ext.refl _).drew | (refine Ext.drew ?_; assumption)) ?_
    repeat (first | (refine useq_skip rfl rfl (by assumption) ?_; simp only [Act.put, List.setIfInBounds_toArray, List.set_cons_zero, List.set_cons_succ]) | (refine useq_pure (v := ?_) rfl rfl rfl rfl (fun X => ?_) ?_; rotate_left; (focus (go_simp <;> with_reducible rfl)); simp only [Act.put, List.setIfInBounds_toArray, List.set_cons_zero, List.set_cons_succ]) | (refine useq_read (v := ?_) rfl rfl rfl rfl (fun X hX => ?_) ?_; rotate_left; (focus (go_simp <;> with_reducible rfl)); simp only [Act.put, List.setIfInBounds_toArray, List.set_cons_zero, List.set_cons_succ]))
    have hx0 : Ext w2 w2.drew := hww.drew
    generalize w2.drew = wd at *
    refine useq_both rfl rfl rfl rfl (fun K hK => ?_) (fun K hK => ?_)
    · go_simp
      refine (impl_copyAutomaton (HS.out _ (hw2.trans hx0)) hs).mono ?_
      rintro e w4 ⟨B, m, d, B', m', d', rfl, own4, hx4⟩
      replace own4 := own4.less hx0.size
      replace hx0 := hx0.trans hx4
      refine hK.out _ _ hx0 ?_
      (try simp only [Act.put, List.setIfInBounds_toArray, List.set_cons_zero, List.set_cons_succ])
      repeat (first | (refine useq_skip rfl rfl (by assumption) ?_; simp only [Act.put, List.setIfInBounds_toArray, List.set_cons_zero, List.set_cons_succ]) | (refine useq_pure (v := ?_) rfl rfl rfl rfl (fun X => ?_) ?_; rotate_left; (focus (go_simp <;> with_reducible rfl)); simp only [Act.put, List.setIfInBounds_toArray, List.set_cons_zero, List.set_cons_succ]) | (refine useq_read (v := ?_) rfl rfl rfl rfl (fun X hX => ?_) ?_; rotate_left; (focus (go_simp <;> with_reducible rfl)); simp only [Act.put, List.setIfInBounds_toArray, List.set_cons_zero, List.set_cons_succ]))
      (refine useq_step rfl rfl rfl (fun K hK => ?_); go_simp)
      have hx1 := (Ext.refl w4).alloc (.cells #[.bool false, .int .i64 0, .slice none 0 0, .slice none 0 0, .string ⟨#[]⟩] 31)
      have hb := Blk.new w4 31 #[.bool false, .int .i64 0, .slice none 0 0, .slice none 0 0, .string ⟨#[]⟩]
      have hG := hx0.size
      replace own4 := own4.ext hx1
      replace hx0 := hx0.trans hx1
      refine hK.out _ _ hx0 ?_
      generalize w4.alloc (.cells #[.bool false, .int .i64 0, .slice none 0 0, .slice none 0 0, .string ⟨#[]⟩] 31) = wg at *
      generalize w4.heap.size = G at *
      (try simp only [Act.put, List.setIfInBounds_toArray, List.set_cons_zero, List.set_cons_succ])
      repeat (first | (refine useq_skip rfl rfl (by assumption) ?_; simp only [Act.put, List.setIfInBounds_toArray, List.set_cons_zero, List.set_cons_succ]) | (refine useq_pure (v := ?_) rfl rfl rfl rfl (fun X => ?_) ?_; rotate_left; (focus (go_simp <;> with_reducible rfl)); simp only [Act.put, List.setIfInBounds_toArray, List.set_cons_zero, List.set_cons_succ]) | (refine useq_read (v := ?_) rfl rfl rfl rfl (fun X hX => ?_) ?_; rotate_left; (focus (go_simp <;> with_reducible rfl)); simp only [Act.put, List.setIfInBounds_toArray, List.set_cons_zero, List.set_cons_succ]))
      have cG := hb.cell
      have fG := hb.frozen
      (refine useq_last rfl rfl rfl rfl (fun K hK => ?_))
      go_simp
      refine hK.out _ _ ?_
      refine useq_nil ?_
      have hfl := fill5_frm wg G (.bool false) (.int .i64 a.al) (.slice B m d) (.slice B' m' d') (.string s)
      have hfin : NewC w2 (((((wg.setCell ⟨G, 0, none⟩ (.bool false)).setCell ⟨G, 1, none⟩ (.int .i64 a.al)).setCell ⟨G, 2, none⟩ (.slice B m d)).setCell ⟨G, 3, none⟩ (.slice B' m' d')).setCell ⟨G, 4, none⟩ (.string s)) G false a s B m d B' m' d' := ⟨fill5_blk hb rfl _ _ _ _ _, own4.own_far5 hb hfl, hx0.frm hfl (fun k hk e => by omega), hG⟩
      go_wp2_with fail
      go_meet
      exact ⟨G, _, _, _, _, _, _, rfl, hfin⟩
    · go_simp
      have hx1 := (Ext.refl wd).alloc (.cells #[.bool false, .int .i64 0, .slice none 0 0, .slice none 0 0, .string ⟨#[]⟩] 31)
      have hb := Blk.new wd 31 #[.bool false, .int .i64 0, .slice none 0 0, .slice none 0 0, .string ⟨#[]⟩]
      have hG := hx0.size
      replace hx0 := hx0.trans hx1
      refine hK.out _ _ hx0 ?_
      generalize wd.alloc (.cells #[.bool false, .int .i64 0, .slice none 0 0, .slice none 0 0, .string ⟨#[]⟩] 31) = wg at *
      generalize wd.heap.size = G at *
      (try simp only [Act.put, List.setIfInBounds_toArray, List.set_cons_zero, List.set_cons_succ])
      repeat (first | (refine useq_skip rfl rfl (by assumption) ?_; simp only [Act.put, List.setIfInBounds_toArray, List.set_cons_zero, List.set_cons_succ]) | (refine useq_pure (v := ?_) rfl rfl rfl rfl (fun X => ?_) ?_; rotate_left; (focus (go_simp <;> with_reducible rfl)); simp only [Act.put, List.setIfInBounds_toArray, List.set_cons_zero, List.set_cons_succ]) | (refine useq_read (v := ?_) rfl rfl rfl rfl (fun X hX => ?_) ?_; rotate_left; (focus (go_simp <;> with_reducible rfl)); simp only [Act.put, List.setIfInBounds_toArray, List.set_cons_zero, List.set_cons_succ]))
      (refine useq_step rfl rfl rfl (fun K hK => ?_); go_simp)
      refine (impl_copyAutomaton (HS.out _ (hw2.trans hx0)) hs).mono ?_
      rintro e w4 ⟨B, m, d, B', m', d', rfl, own4, hx4⟩
      replace own4 := own4.less hx0.size
      replace hb := hb.ext hx4
      replace hx0 := hx0.trans hx4
      refine hK.out _ _ hx0 ?_
      (try simp only [Act.put, List.setIfInBounds_toArray, List.set_cons_zero, List.set_cons_succ])
      repeat (first | (refine useq_skip rfl rfl (by assumption) ?_; simp only [Act.put, List.setIfInBounds_toArray, List.set_cons_zero, List.set_cons_succ]) | (refine useq_pure (v := ?_) rfl rfl rfl rfl (fun X => ?_) ?_; rotate_left; (focus (go_simp <;> with_reducible rfl)); simp only [Act.put, List.setIfInBounds_toArray, List.set_cons_zero, List.set_cons_succ]) | (refine useq_read (v := ?_) rfl rfl rfl rfl (fun X hX => ?_) ?_; rotate_left; (focus (go_simp <;> with_reducible rfl)); simp only [Act.put, List.setIfInBounds_toArray, List.set_cons_zero, List.set_cons_succ]))
      have cG := hb.cell
      have fG := hb.frozen
      (refine useq_last rfl rfl rfl rfl (fun K hK => ?_))
      go_simp
      refine hK.out _ _ ?_
      refine useq_nil ?_
      have hfl := fill5_frm w4 G (.bool false) (.int .i64 a.al) (.slice B m d) (.slice B' m' d') (.string s)
      have hfin : NewC w2 (((((w4.setCell ⟨G, 0, none⟩ (.bool false)).setCell ⟨G, 1, none⟩ (.int .i64 a.al)).setCell ⟨G, 2, none⟩ (.slice B m d)).setCell ⟨G, 3, none⟩ (.slice B' m' d')).setCell ⟨G, 4, none⟩ (.string s)) G false a s B m d B' m' d' := ⟨fill5_blk hb rfl _ _ _ _ _, own4.own_far5 hb hfl, hx0.frm hfl (fun k hk e => by omega), hG⟩
      go_wp2_with fail
      go_meet
      exact ⟨G, _, _, _, _, _, _, rfl, hfin⟩
  case rest =>
    obtain ⟨G, B, m, d, B', m', d', rfl, hb, own4, hx2, hG⟩ := hcut
    have kG := hb.cell
    have k1 := (b1.ext hx2).cell
    go_wp2_with fail
    refine (impl_CertificateValid _ _ _ _ _ _ _ _ _ _ _ _ own4.reads hs9).mono ?_
    rw [Hv.out]
    rintro e w5 ⟨rfl, hx5⟩
    clear kG k1
    replace hb := hb.ext hx5
    replace own4 := own4.ext hx5
    replace hx2 := hx2.trans hx5
    have kG := hb.cell
    have k1 := (b1.ext hx2).cell
    have hbz := bz.ext hx2
    have cZ := hbz.cell
    have fZ := hbz.frozen
    have hfl := fill5_frm w5 (w.heap.size + 1) (.bool false) (.int .i64 a.al) (.slice B m d) (.slice B' m' d') (.string s)
    have hbf := fill5_blk hbz rfl (.bool false) (.int .i64 a.al) (.slice B m d) (.slice B' m' d') (.string s)
    have hxf := (hw2.trans hx2).frm hfl (fun k hk e => by omega)
    have hfin := hide (show RetCof w false a s true (.returned (.tuple #[.agg #[.bool false, .int .i64 a.al, .slice B m d, .slice B' m' d', .string s], .bool true])) (((((w5.setCell ⟨w.heap.size + 1, 0, none⟩ (.bool false)).setCell ⟨w.heap.size + 1, 1, none⟩ (.int .i64 a.al)).setCell ⟨w.heap.size + 1, 2, none⟩ (.slice B m d)).setCell ⟨w.heap.size + 1, 3, none⟩ (.slice B' m' d')).setCell ⟨w.heap.size + 1, 4, none⟩ (.string s)) from ⟨B, m, d, B', m', d', rfl, (own4.keep hfl (fun b h1 e => by omega)).less (by omega), hxf⟩)
    go_wp2_with fail
    generalize (((((w5.setCell ⟨w.heap.size + 1, 0, none⟩ (.bool false)).setCell ⟨w.heap.size + 1, 1, none⟩ (.int .i64 a.al)).setCell ⟨w.heap.size + 1, 2, none⟩ (.slice B m d)).setCell ⟨w.heap.size + 1, 3, none⟩ (.slice B' m' d')).setCell ⟨w.heap.size + 1, 4, none⟩ (.string s)) = wf at *
    have cf := hbf.cell
    exact bodyPost_ret (v := .tuple #[.agg #[.bool false, .int .i64 a.al, .slice B m d, .slice B' m' d', .string s], .bool true]) (by simp [results, Try.results7, go_sem, cf]) rfl hfin.out
set_option maxRecDepth 100000 in
theorem impl_CertificateOf1f {lo hi : Nat} {A : Option Addr} {n c : Nat} {A' : Option Addr} {n' c' : Nat} {ro : Int} {a : Aut} {s : ByteArray} {w : World} (h : AutAt w lo hi A n A' n' a) (hs : a.size ≤ 1048576) (hs9 : s.size ≤ 9223372036854775807) (hv : certValid false a s = false) :
    Calls Try.prog 7 #[.agg #[.int .i64 1, .int .i64 a.al, .slice A n c, .slice A' n' c', .string s, .int .i64 ro]] w (RetCof w false aut0 ⟨#[]⟩ false) := by
  have Hv := hide hv
  clear hv
  have HS := hide (fun W (hW : Ext w W) => h.ext hW)
  have hss := hs
  clear h
  go_enter Try.func7, Try.ntmps7
  obtain ⟨b1, bz⟩ := ext_blk2 (Ext.refl ((w.alloc (.cells #[.int .i64 1, .int .i64 a.al, .slice A n c, .slice A' n' c', .string s, .int .i64 ro] 35)).alloc (.cells #[.bool false, .int .i64 0, .slice none 0 0, .slice none 0 0, .string ⟨#[]⟩] 31)))
  have hw2 : Ext w ((w.alloc (.cells #[.int .i64 1, .int .i64 a.al, .slice A n c, .slice A' n' c', .string s, .int .i64 ro] 35)).alloc (.cells #[.bool false, .int .i64 0, .slice none 0 0, .slice none 0 0, .string ⟨#[]⟩] 31)) := ((Ext.refl w).alloc _).alloc _
  have hsz2 : w.heap.size + 2 = ((w.alloc (.cells #[.int .i64 1, .int .i64 a.al, .slice A n c, .slice A' n' c', .string s, .int .i64 ro] 35)).alloc (.cells #[.bool false, .int .i64 0, .slice none 0 0, .slice none 0 0, .string ⟨#[]⟩] 31)).heap.size := by simp
  have k1 := b1.cell
  go_upto_region 3 with fail
  generalize (w.alloc (.cells #[.int .i64 1, .int .i64 a.al, .slice A n c, .slice A' n' c', .string s, .int .i64 ro] 35)).alloc (.cells #[.bool false, .int .i64 0, .slice none 0 0, .slice none 0 0, .string ⟨#[]⟩] 31) = w2 at *
  clear k1
  go_cut [4] (fun v wx => ∃ G B m d B' m' d', v = .pointer (some ⟨G, 0, none⟩) ∧ NewC w2 wx G false a s B m d B' m' d')
  case first =>
    have c1 := fun W (hW : Ext w2 W) => (b1.ext hW).cell
    have hww := Ext.refl w2
    refine wp_region_tailU (fun X => Ext w2 X) [10] (OrdU.app [0, 1, 2, 3, 4, 6, 7] (OrdU.two 5 (OrdU.of [8, 9, 10]) 9 (OrdU.of [5, 8, 10]))) (by kernel_rfl) (by kernel_rfl) (by kernel_rfl) (by kernel_rfl) (by kernel_rfl) (fun _ _ _ _ _ h => h) (by first | assumption | exact (Ext.refl _).drew | (refine Ext.drew ?_; assumption)) ?_
    repeat (first | (refine useq_skip rfl rfl (by assumption) ?_; simp only [Act.put, List.setIfInBounds_toArray, List.set_cons_zero, List.set_cons_succ]) | (refine useq_pure (v := ?_) rfl rfl rfl rfl (fun X => ?_) ?_; rotate_left; (focus (go_simp <;> with_reducible rfl)); simp only [Act.put, List.setIfInBounds_toArray, List.set_cons_zero, List.set_cons_succ]) | (refine useq_read (v := ?_) rfl rfl rfl rfl (fun X hX => ?_) ?_; rotate_left; (focus (go_simp <;> with_reducible rfl)); simp only [Act.put, List.setIfInBounds_toArray, List.set_cons_zero, List.set_cons_succ]))
    have hx0 : Ext w2 w2.drew := hww.drew
    generalize w2.drew = wd at *
    refine useq_both rfl rfl rfl rfl (fun K hK => ?_) (fun K hK => ?_)
    · go_simp
      refine (impl_copyAutomaton (HS.out _ (hw2.trans hx0)) hs).mono ?_
      rintro e w4 ⟨B, m, d, B', m', d', rfl, own4, hx4⟩
      replace own4 := own4.less hx0.size
      replace hx0 := hx0.trans hx4
      refine hK.out _ _ hx0 ?_
      (try simp only [Act.put, List.setIfInBounds_toArray, List.set_cons_zero, List.set_cons_succ])
      repeat (first | (refine useq_skip rfl rfl (by assumption) ?_; simp only [Act.put, List.setIfInBounds_toArray, List.set_cons_zero, List.set_cons_succ]) | (refine useq_pure (v := ?_) rfl rfl rfl rfl (fun X => ?_) ?_; rotate_left; (focus (go_simp <;> with_reducible rfl)); simp only [Act.put, List.setIfInBounds_toArray, List.set_cons_zero, List.set_cons_succ]) | (refine useq_read (v := ?_) rfl rfl rfl rfl (fun X hX => ?_) ?_; rotate_left; (focus (go_simp <;> with_reducible rfl)); simp only [Act.put, List.setIfInBounds_toArray, List.set_cons_zero, List.set_cons_succ]))
      (refine useq_step rfl rfl rfl (fun K hK => ?_); go_simp)
      have hx1 := (Ext.refl w4).alloc (.cells #[.bool false, .int .i64 0, .slice none 0 0, .slice none 0 0, .string ⟨#[]⟩] 31)
      have hb := Blk.new w4 31 #[.bool false, .int .i64 0, .slice none 0 0, .slice none 0 0, .string ⟨#[]⟩]
      have hG := hx0.size
      replace own4 := own4.ext hx1
      replace hx0 := hx0.trans hx1
      refine hK.out _ _ hx0 ?_
      generalize w4.alloc (.cells #[.bool false, .int .i64 0, .slice none 0 0, .slice none 0 0, .string ⟨#[]⟩] 31) = wg at *
      generalize w4.heap.size = G at *
      (try simp only [Act.put, List.setIfInBounds_toArray, List.set_cons_zero, List.set_cons_succ])
      repeat (first | (refine useq_skip rfl rfl (by assumption) ?_; simp only [Act.put, List.setIfInBounds_toArray, List.set_cons_zero, List.set_cons_succ]) | (refine useq_pure (v := ?_) rfl rfl rfl rfl (fun X => ?_) ?_; rotate_left; (focus (go_simp <;> with_reducible rfl)); simp only [Act.put, List.setIfInBounds_toArray, List.set_cons_zero, List.set_cons_succ]) | (refine useq_read (v := ?_) rfl rfl rfl rfl (fun X hX => ?_) ?_; rotate_left; (focus (go_simp <;> with_reducible rfl)); simp only [Act.put, List.setIfInBounds_toArray, List.set_cons_zero, List.set_cons_succ]))
      have cG := hb.cell
      have fG := hb.frozen
      (refine useq_last rfl rfl rfl rfl (fun K hK => ?_))
      go_simp
      refine hK.out _ _ ?_
      refine useq_nil ?_
      have hfl := fill5_frm wg G (.bool false) (.int .i64 a.al) (.slice B m d) (.slice B' m' d') (.string s)
      have hfin : NewC w2 (((((wg.setCell ⟨G, 0, none⟩ (.bool false)).setCell ⟨G, 1, none⟩ (.int .i64 a.al)).setCell ⟨G, 2, none⟩ (.slice B m d)).setCell ⟨G, 3, none⟩ (.slice B' m' d')).setCell ⟨G, 4, none⟩ (.string s)) G false a s B m d B' m' d' := ⟨fill5_blk hb rfl _ _ _ _ _, own4.own_far5 hb hfl, hx0.frm hfl (fun k hk e => by omega), hG⟩
      go_wp2_with fail
      go_meet
      exact ⟨G, _, _, _, _, _, _, rfl, hfin⟩
    · go_simp
      have hx1 := (Ext.refl wd).alloc (.cells #[.bool false, .int .i64 0, .slice none 0 0, .slice none 0 0, .string ⟨#[]⟩] 31)
      have hb := Blk.new wd 31 #[.bool false, .int .i64 0, .slice none 0 0, .slice none 0 0, .string ⟨#[]⟩]
      have hG := hx0.size
      replace hx0 := hx0.trans hx1
      refine hK.out _ _ hx0 ?_
      generalize wd.alloc (.cells #[.bool false, .int .i64 0, .slice none 0 0, .slice none 0 0, .string ⟨#[]⟩] 31) = wg at *
      generalize wd.heap.size = G at *
      (try simp only [Act.put, List.setIfInBounds_toArray, List.set_cons_zero, List.set_cons_succ])
      repeat (first | (refine useq_skip rfl rfl (by assumption) ?_; simp only [Act.put, List.setIfInBounds_toArray, List.set_cons_zero, List.set_cons_succ]) | (refine useq_pure (v := ?_) rfl rfl rfl rfl (fun X => ?_) ?_; rotate_left; (focus (go_simp <;> with_reducible rfl)); simp only [Act.put, List.setIfInBounds_toArray, List.set_cons_zero, List.set_cons_succ]) | (refine useq_read (v := ?_) rfl rfl rfl rfl (fun X hX => ?_) ?_; rotate_left; (focus (go_simp <;> with_reducible rfl)); simp only [Act.put, List.setIfInBounds_toArray, List.set_cons_zero, List.set_cons_succ]))
      (refine useq_step rfl rfl rfl (fun K hK => ?_); go_simp)
      refine (impl_copyAutomaton (HS.out _ (hw2.trans hx0)) hs).mono ?_
      rintro e w4 ⟨B, m, d, B', m', d', rfl, own4, hx4⟩
      replace own4 := own4.less hx0.size
      replace hb := hb.ext hx4
      replace hx0 := hx0.trans hx4
      refine hK.out _ _ hx0 ?_
      (try simp only [Act.put, List.setIfInBounds_toArray, List.set_cons_zero, List.set_cons_succ])
      repeat (first | (refine useq_skip rfl rfl (by assumption) ?_; simp only [Act.put, List.setIfInBounds_toArray, List.set_cons_zero, List.set_cons_succ]) | (refine useq_pure (v := ?_) rfl rfl rfl rfl (fun X => ?_) ?_; rotate_left; (focus (go_simp <;> with_reducible rfl)); simp only [Act.put, List.setIfInBounds_toArray, List.set_cons_zero, List.set_cons_succ]) | (refine useq_read (v := ?_) rfl rfl rfl rfl (fun X hX => ?_) ?_; rotate_left; (focus (go_simp <;> with_reducible rfl)); simp only [Act.put, List.setIfInBounds_toArray, List.set_cons_zero, List.set_cons_succ]))
      have cG := hb.cell
      have fG := hb.frozen
      (refine useq_last rfl rfl rfl rfl (fun K hK => ?_))
      go_simp
      refine hK.out _ _ ?_
      refine useq_nil ?_
      have hfl := fill5_frm w4 G (.bool false) (.int .i64 a.al) (.slice B m d) (.slice B' m' d') (.string s)
      have hfin : NewC w2 (((((w4.setCell ⟨G, 0, none⟩ (.bool false)).setCell ⟨G, 1, none⟩ (.int .i64 a.al)).setCell ⟨G, 2, none⟩ (.slice B m d)).setCell ⟨G, 3, none⟩ (.slice B' m' d')).setCell ⟨G, 4, none⟩ (.string s)) G false a s B m d B' m' d' := ⟨fill5_blk hb rfl _ _ _ _ _, own4.own_far5 hb hfl, hx0.frm hfl (fun k hk e => by omega), hG⟩
      go_wp2_with fail
      go_meet
      exact ⟨G, _, _, _, _, _, _, rfl, hfin⟩
  case rest =>
    obtain ⟨G, B, m, d, B', m', d', rfl, hb, own4, hx2, hG⟩ := hcut
    have kG := hb.cell
    have k1 := (b1.ext hx2).cell
    go_wp2_with fail
    refine (impl_CertificateValid _ _ _ _ _ _ _ _ _ _ _ _ own4.reads hs9).mono ?_
    rw [Hv.out]
    rintro e w5 ⟨rfl, hx5⟩
    clear kG k1
    replace hb := hb.ext hx5
    replace own4 := own4.ext hx5
    replace hx2 := hx2.trans hx5
    have kG := hb.cell
    have k1 := (b1.ext hx2).cell
    have hbz := bz.ext hx2
    have cZ := hbz.cell
    have fZ := hbz.frozen
    have hfl := fill5_frm w5 (w.heap.size + 1) (.bool false) (.int .i64 0) (.slice none 0 0) (.slice none 0 0) (.string ⟨#[]⟩)
    have hbf := fill5_blk hbz rfl (.bool false) (.int .i64 0) (.slice none 0 0) (.slice none 0 0) (.string ⟨#[]⟩)
    have hxf := (hw2.trans hx2).frm hfl (fun k hk e => by omega)
    have hfin := hide (show RetCof w false aut0 ⟨#[]⟩ false (.returned (.tuple #[.agg #[.bool false, .int .i64 0, .slice none 0 0, .slice none 0 0, .string ⟨#[]⟩], .bool false])) (((((w5.setCell ⟨w.heap.size + 1, 0, none⟩ (.bool false)).setCell ⟨w.heap.size + 1, 1, none⟩ (.int .i64 0)).setCell ⟨w.heap.size + 1, 2, none⟩ (.slice none 0 0)).setCell ⟨w.heap.size + 1, 3, none⟩ (.slice none 0 0)).setCell ⟨w.heap.size + 1, 4, none⟩ (.string ⟨#[]⟩)) from ⟨none, 0, 0, none, 0, 0, rfl, own_aut0 _ _, hxf⟩)
    go_wp2_with fail
    generalize (((((w5.setCell ⟨w.heap.size + 1, 0, none⟩ (.bool false)).setCell ⟨w.heap.size + 1, 1, none⟩ (.int .i64 0)).setCell ⟨w.heap.size + 1, 2, none⟩ (.slice none 0 0)).setCell ⟨w.heap.size + 1, 3, none⟩ (.slice none 0 0)).setCell ⟨w.heap.size + 1, 4, none⟩ (.string ⟨#[]⟩)) = wf at *
    have cf := hbf.cell
    exact bodyPost_ret (v := .tuple #[.agg #[.bool false, .int .i64 0, .slice none 0 0, .slice none 0 0, .string ⟨#[]⟩], .bool false]) (by simp [results, Try.results7, go_sem, cf]) rfl hfin.out
set_option maxRecDepth 100000 in
theorem spec_CertificateOf1t {lo hi : Nat} {A : Option Addr} {n c : Nat} {A' : Option Addr} {n' c' : Nat} {ro : Int} {a : Aut} {s : ByteArray} {w : World} (h : AutAt w lo hi A n A' n' a) (hs : a.size ≤ 1048576) (hs9 : s.size ≤ 9223372036854775807) (hv : certValid false a s = true) :
    Calls Try.prog 5 #[.agg #[.int .i64 1, .int .i64 a.al, .slice A n c, .slice A' n' c', .string s, .int .i64 ro]] w (RetCof w false a s true) := by
  have Hv := hide hv
  clear hv
  have HS := hide (fun W (hW : Ext w W) => h.ext hW)
  have hss := hs
  clear h
  go_enter Try.func5, Try.ntmps5
  obtain ⟨b1, bz⟩ := ext_blk2 (Ext.refl ((w.alloc (.cells #[.int .i64 1, .int .i64 a.al, .slice A n c, .slice A' n' c', .string s, .int .i64 ro] 35)).alloc (.cells #[.bool false, .int .i64 0, .slice none 0 0, .slice none 0 0, .string ⟨#[]⟩] 31)))
  have hw2 : Ext w ((w.alloc (.cells #[.int .i64 1, .int .i64 a.al, .slice A n c, .slice A' n' c', .string s, .int .i64 ro] 35)).alloc (.cells #[.bool false, .int .i64 0, .slice none 0 0, .slice none 0 0, .string ⟨#[]⟩] 31)) := ((Ext.refl w).alloc _).alloc _
  have hsz2 : w.heap.size + 2 = ((w.alloc (.cells #[.int .i64 1, .int .i64 a.al, .slice A n c, .slice A' n' c', .string s, .int .i64 ro] 35)).alloc (.cells #[.bool false, .int .i64 0, .slice none 0 0, .slice none 0 0, .string ⟨#[]⟩] 31)).heap.size := by simp
  go_upto_region 1 with fail
  generalize (w.alloc (.cells #[.int .i64 1, .int .i64 a.al, .slice A n c, .slice A' n' c', .string s, .int .i64 ro] 35)).alloc (.cells #[.bool false, .int .i64 0, .slice none 0 0, .slice none 0 0, .string ⟨#[]⟩] 31) = w2 at *
  go_cut [4] (fun v wx => ∃ G B m d B' m' d', v = .pointer (some ⟨G, 0, none⟩) ∧ NewC w2 wx G false a s B m d B' m' d')
  case first =>
    have c1 := fun W (hW : Ext w2 W) => (b1.ext hW).cell
    have hww := Ext.refl w2
    refine wp_region_tailU (fun X => Ext w2 X) [10] (OrdU.app [0, 1, 2, 3, 4, 6, 7] (OrdU.two 5 (OrdU.of [8, 9, 10]) 9 (OrdU.of [5, 8, 10]))) (by kernel_rfl) (by kernel_rfl) (by kernel_rfl) (by kernel_rfl) (by kernel_rfl) (fun _ _ _ _ _ h => h) (by first | assumption | exact (Ext.refl _).drew | (refine Ext.drew ?_; assumption)) ?_
    repeat (first | (refine useq_skip rfl rfl (by assumption) ?_; simp only [Act.put, List.setIfInBounds_toArray, List.set_cons_zero, List.set_cons_succ]) | (refine useq_pure (v := ?_) rfl rfl rfl rfl (fun X => ?_) ?_; rotate_left; (focus (go_simp <;> with_reducible rfl)); simp only [Act.put, List.setIfInBounds_toArray, List.set_cons_zero, List.set_cons_succ]) | (refine useq_read (v := ?_) rfl rfl rfl rfl (fun X hX => ?_) ?_; rotate_left; (focus (go_simp <;> with_reducible rfl)); simp only [Act.put, List.setIfInBounds_toArray, List.set_cons_zero, List.set_cons_succ]))
    have hx0 : Ext w2 w2.drew := hww.drew
    generalize w2.drew = wd at *
    refine useq_both rfl rfl rfl rfl (fun K hK => ?_) (fun K hK => ?_)
    · go_simp
      refine (spec_l3Copy (HS.out _ (hw2.trans hx0)) hs).mono ?_
      rintro e w4 ⟨B, m, d, B', m', d', rfl, own4, hx4⟩
      replace own4 := own4.less hx0.size
      replace hx0 := hx0.trans hx4
      refine hK.out _ _ hx0 ?_
      (try simp only [Act.put, List.setIfInBounds_toArray, List.set_cons_zero, List.set_cons_succ])
      repeat (first | (refine useq_skip rfl rfl (by assumption) ?_; simp only [Act.put, List.setIfInBounds_toArray, List.set_cons_zero, List.set_cons_succ]) | (refine useq_pure (v := ?_) rfl rfl rfl rfl (fun X => ?_) ?_; rotate_left; (focus (go_simp <;> with_reducible rfl)); simp only [Act.put, List.setIfInBounds_toArray, List.set_cons_zero, List.set_cons_succ]) | (refine useq_read (v := ?_) rfl rfl rfl rfl (fun X hX => ?_) ?_; rotate_left; (focus (go_simp <;> with_reducible rfl)); simp only [Act.put, List.setIfInBounds_toArray, List.set_cons_zero, List.set_cons_succ]))
      (refine useq_step rfl rfl rfl (fun K hK => ?_); go_simp)
      have hx1 := (Ext.refl w4).alloc (.cells #[.bool false, .int .i64 0, .slice none 0 0, .slice none 0 0, .string ⟨#[]⟩] 31)
      have hb := Blk.new w4 31 #[.bool false, .int .i64 0, .slice none 0 0, .slice none 0 0, .string ⟨#[]⟩]
      have hG := hx0.size
      replace own4 := own4.ext hx1
      replace hx0 := hx0.trans hx1
      refine hK.out _ _ hx0 ?_
      generalize w4.alloc (.cells #[.bool false, .int .i64 0, .slice none 0 0, .slice none 0 0, .string ⟨#[]⟩] 31) = wg at *
      generalize w4.heap.size = G at *
      (try simp only [Act.put, List.setIfInBounds_toArray, List.set_cons_zero, List.set_cons_succ])
      repeat (first | (refine useq_skip rfl rfl (by assumption) ?_; simp only [Act.put, List.setIfInBounds_toArray, List.set_cons_zero, List.set_cons_succ]) | (refine useq_pure (v := ?_) rfl rfl rfl rfl (fun X => ?_) ?_; rotate_left; (focus (go_simp <;> with_reducible rfl)); simp only [Act.put, List.setIfInBounds_toArray, List.set_cons_zero, List.set_cons_succ]) | (refine useq_read (v := ?_) rfl rfl rfl rfl (fun X hX => ?_) ?_; rotate_left; (focus (go_simp <;> with_reducible rfl)); simp only [Act.put, List.setIfInBounds_toArray, List.set_cons_zero, List.set_cons_succ]))
      have cG := hb.cell
      have fG := hb.frozen
      (refine useq_last rfl rfl rfl rfl (fun K hK => ?_))
      go_simp
      refine hK.out _ _ ?_
      refine useq_nil ?_
      have hfl := fill5_frm wg G (.bool false) (.int .i64 a.al) (.slice B m d) (.slice B' m' d') (.string s)
      have hfin : NewC w2 (((((wg.setCell ⟨G, 0, none⟩ (.bool false)).setCell ⟨G, 1, none⟩ (.int .i64 a.al)).setCell ⟨G, 2, none⟩ (.slice B m d)).setCell ⟨G, 3, none⟩ (.slice B' m' d')).setCell ⟨G, 4, none⟩ (.string s)) G false a s B m d B' m' d' := ⟨fill5_blk hb rfl _ _ _ _ _, own4.own_far5 hb hfl, hx0.frm hfl (fun k hk e => by omega), hG⟩
      go_wp2_with fail
      go_meet
      exact ⟨G, _, _, _, _, _, _, rfl, hfin⟩
    · go_simp
      have hx1 := (Ext.refl wd).alloc (.cells #[.bool false, .int .i64 0, .slice none 0 0, .slice none 0 0, .string ⟨#[]⟩] 31)
      have hb := Blk.new wd 31 #[.bool false, .int .i64 0, .slice none 0 0, .slice none 0 0, .string ⟨#[]⟩]
      have hG := hx0.size
      replace hx0 := hx0.trans hx1
      refine hK.out _ _ hx0 ?_
      generalize wd.alloc (.cells #[.bool false, .int .i64 0, .slice none 0 0, .slice none 0 0, .string ⟨#[]⟩] 31) = wg at *
      generalize wd.heap.size = G at *
      (try simp only [Act.put, List.setIfInBounds_toArray, List.set_cons_zero, List.set_cons_succ])
      repeat (first | (refine useq_skip rfl rfl (by assumption) ?_; simp only [Act.put, List.setIfInBounds_toArray, List.set_cons_zero, List.set_cons_succ]) | (refine useq_pure (v := ?_) rfl rfl rfl rfl (fun X => ?_) ?_; rotate_left; (focus (go_simp <;> with_reducible rfl)); simp only [Act.put, List.setIfInBounds_toArray, List.set_cons_zero, List.set_cons_succ]) | (refine useq_read (v := ?_) rfl rfl rfl rfl (fun X hX => ?_) ?_; rotate_left; (focus (go_simp <;> with_reducible rfl)); simp only [Act.put, List.setIfInBounds_toArray, List.set_cons_zero, List.set_cons_succ]))
      (refine useq_step rfl rfl rfl (fun K hK => ?_); go_simp)
      refine (spec_l3Copy (HS.out _ (hw2.trans hx0)) hs).mono ?_
      rintro e w4 ⟨B, m, d, B', m', d', rfl, own4, hx4⟩
      replace own4 := own4.less hx0.size
      replace hb := hb.ext hx4
      replace hx0 := hx0.trans hx4
      refine hK.out _ _ hx0 ?_
      (try simp only [Act.put, List.setIfInBounds_toArray, List.set_cons_zero, List.set_cons_succ])
      repeat (first | (refine useq_skip rfl rfl (by assumption) ?_; simp only [Act.put, List.setIfInBounds_toArray, List.set_cons_zero, List.set_cons_succ]) | (refine useq_pure (v := ?_) rfl rfl rfl rfl (fun X => ?_) ?_; rotate_left; (focus (go_simp <;> with_reducible rfl)); simp only [Act.put, List.setIfInBounds_toArray, List.set_cons_zero, List.set_cons_succ]) | (refine useq_read (v := ?_) rfl rfl rfl rfl (fun X hX => ?_) ?_; rotate_left; (focus (go_simp <;> with_reducible rfl)); simp only [Act.put, List.setIfInBounds_toArray, List.set_cons_zero, List.set_cons_succ]))
      have cG := hb.cell
      have fG := hb.frozen
      (refine useq_last rfl rfl rfl rfl (fun K hK => ?_))
      go_simp
      refine hK.out _ _ ?_
      refine useq_nil ?_
      have hfl := fill5_frm w4 G (.bool false) (.int .i64 a.al) (.slice B m d) (.slice B' m' d') (.string s)
      have hfin : NewC w2 (((((w4.setCell ⟨G, 0, none⟩ (.bool false)).setCell ⟨G, 1, none⟩ (.int .i64 a.al)).setCell ⟨G, 2, none⟩ (.slice B m d)).setCell ⟨G, 3, none⟩ (.slice B' m' d')).setCell ⟨G, 4, none⟩ (.string s)) G false a s B m d B' m' d' := ⟨fill5_blk hb rfl _ _ _ _ _, own4.own_far5 hb hfl, hx0.frm hfl (fun k hk e => by omega), hG⟩
      go_wp2_with fail
      go_meet
      exact ⟨G, _, _, _, _, _, _, rfl, hfin⟩
  case rest =>
    obtain ⟨G, B, m, d, B', m', d', rfl, hb, own4, hx2, hG⟩ := hcut
    have kG := hb.cell
    have k1 := (b1.ext hx2).cell
    go_wp2_with fail
    refine (spec_CertificateValid _ _ _ _ _ _ _ _ _ _ _ _ own4.reads hs9).mono ?_
    rw [Hv.out]
    rintro e w5 ⟨rfl, hx5⟩
    clear kG k1
    replace hb := hb.ext hx5
    replace own4 := own4.ext hx5
    replace hx2 := hx2.trans hx5
    have kG := hb.cell
    have k1 := (b1.ext hx2).cell
    have hbz := bz.ext hx2
    have cZ := hbz.cell
    have fZ := hbz.frozen
    have hfl := fill5_frm w5 (w.heap.size + 1) (.bool false) (.int .i64 a.al) (.slice B m d) (.slice B' m' d') (.string s)
    have hbf := fill5_blk hbz rfl (.bool false) (.int .i64 a.al) (.slice B m d) (.slice B' m' d') (.string s)
    have hxf := (hw2.trans hx2).frm hfl (fun k hk e => by omega)
    have hfin := hide (show RetCof w false a s true (.returned (.tuple #[.agg #[.bool false, .int .i64 a.al, .slice B m d, .slice B' m' d', .string s], .bool true])) (((((w5.setCell ⟨w.heap.size + 1, 0, none⟩ (.bool false)).setCell ⟨w.heap.size + 1, 1, none⟩ (.int .i64 a.al)).setCell ⟨w.heap.size + 1, 2, none⟩ (.slice B m d)).setCell ⟨w.heap.size + 1, 3, none⟩ (.slice B' m' d')).setCell ⟨w.heap.size + 1, 4, none⟩ (.string s)) from ⟨B, m, d, B', m', d', rfl, (own4.keep hfl (fun b h1 e => by omega)).less (by omega), hxf⟩)
    go_wp2_with fail
    generalize (((((w5.setCell ⟨w.heap.size + 1, 0, none⟩ (.bool false)).setCell ⟨w.heap.size + 1, 1, none⟩ (.int .i64 a.al)).setCell ⟨w.heap.size + 1, 2, none⟩ (.slice B m d)).setCell ⟨w.heap.size + 1, 3, none⟩ (.slice B' m' d')).setCell ⟨w.heap.size + 1, 4, none⟩ (.string s)) = wf at *
    have cf := hbf.cell
    exact bodyPost_ret (v := .tuple #[.agg #[.bool false, .int .i64 a.al, .slice B m d, .slice B' m' d', .string s], .bool true]) (by simp [results, Try.results5, go_sem, cf]) rfl hfin.out
set_option maxRecDepth 100000 in
theorem spec_CertificateOf1f {lo hi : Nat} {A : Option Addr} {n c : Nat} {A' : Option Addr} {n' c' : Nat} {ro : Int} {a : Aut} {s : ByteArray} {w : World} (h : AutAt w lo hi A n A' n' a) (hs : a.size ≤ 1048576) (hs9 : s.size ≤ 9223372036854775807) (hv : certValid false a s = false) :
    Calls Try.prog 5 #[.agg #[.int .i64 1, .int .i64 a.al, .slice A n c, .slice A' n' c', .string s, .int .i64 ro]] w (RetCof w false aut0 ⟨#[]⟩ false) := by
  have Hv := hide hv
  clear hv
  have HS := hide (fun W (hW : Ext w W) => h.ext hW)
  have hss := hs
  clear h
  go_enter Try.func5, Try.ntmps5
  obtain ⟨b1, bz⟩ := ext_blk2 (Ext.refl ((w.alloc (.cells #[.int .i64 1, .int .i64 a.al, .slice A n c, .slice A' n' c', .string s, .int .i64 ro] 35)).alloc (.cells #[.bool false, .int .i64 0, .slice none 0 0, .slice none 0 0, .string ⟨#[]⟩] 31)))
  have hw2 : Ext w ((w.alloc (.cells #[.int .i64 1, .int .i64 a.al, .slice A n c, .slice A' n' c', .string s, .int .i64 ro] 35)).alloc (.cells #[.bool false, .int .i64 0, .slice none 0 0, .slice none 0 0, .string ⟨#[]⟩] 31)) := ((Ext.refl w).alloc _).alloc _
  have hsz2 : w.heap.size + 2 = ((w.alloc (.cells #[.int .i64 1, .int .i64 a.al, .slice A n c, .slice A' n' c', .string s, .int .i64 ro] 35)).alloc (.cells #[.bool false, .int .i64 0, .slice none 0 0, .slice none 0 0, .string ⟨#[]⟩] 31)).heap.size := by simp
  go_upto_region 1 with fail
  generalize (w.alloc (.cells #[.int .i64 1, .int .i64 a.al, .slice A n c, .slice A' n' c', .string s, .int .i64 ro] 35)).alloc (.cells #[.bool false, .int .i64 0, .slice none 0 0, .slice none 0 0, .string ⟨#[]⟩] 31) = w2 at *
  go_cut [4] (fun v wx => ∃ G B m d B' m' d', v = .pointer (some ⟨G, 0, none⟩) ∧ NewC w2 wx G false a s B m d B' m' d')
  case first =>
    have c1 := fun W (hW : Ext w2 W) => (b1.ext hW).cell
    have hww := Ext.refl w2
    refine wp_region_tailU (fun X => Ext w2 X) [10] (OrdU.app [0, 1, 2, 3, 4, 6, 7] (OrdU.two 5 (OrdU.of [8, 9, 10]) 9 (OrdU.of [5, 8, 10]))) (by kernel_rfl) (by kernel_rfl) (by kernel_rfl) (by kernel_rfl) (by kernel_rfl) (fun _ _ _ _ _ h => h) (by first | assumption | exact (Ext.refl _).drew | (refine Ext.drew ?_; assumption)) ?_
    repeat (first | (refine useq_skip rfl rfl (by assumption) ?_; simp only [Act.put, List.setIfInBounds_toArray, List.set_cons_zero, List.set_cons_succ]) | (refine useq_pure (v := ?_) rfl rfl rfl rfl (fun X => ?_) ?_; rotate_left; (focus (go_simp <;> with_reducible rfl)); simp only [Act.put, List.setIfInBounds_toArray, List.set_cons_zero, List.set_cons_succ]) | (refine useq_read (v := ?_) rfl rfl rfl rfl (fun X hX => ?_) ?_; rotate_left; (focus (go_simp <;> with_reducible rfl)); simp only [Act.put, List.setIfInBounds_toArray, List.set_cons_zero, List.set_cons_succ]))
    have hx0 : Ext w2 w2.drew := hww.drew
    generalize w2.drew = wd at *
    refine useq_both rfl rfl rfl rfl (fun K hK => ?_) (fun K hK => ?_)
    · go_simp
      refine (spec_l3Copy (HS.out _ (hw2.trans hx0)) hs).mono ?_
      rintro e w4 ⟨B, m, d, B', m', d', rfl, own4, hx4⟩
      replace own4 := own4.less hx0.size
      replace hx0 := hx0.trans hx4
      refine hK.out _ _ hx0 ?_
      (try simp only [Act.put, List.setIfInBounds_toArray, List.set_cons_zero, List.set_cons_succ])
      repeat (first | (refine useq_skip rfl rfl (by assumption) ?_; simp only [Act.put, List.setIfInBounds_toArray, List.set_cons_zero, List.set_cons_succ]) | (refine useq_pure (v := ?_) rfl rfl rfl rfl (fun X => ?_) ?_; rotate_left; (focus (go_simp <;> with_reducible rfl)); simp only [Act.put, List.setIfInBounds_toArray, List.set_cons_zero, List.set_cons_succ]) | (refine useq_read (v := ?_) rfl rfl rfl rfl (fun X hX => ?_) ?_; rotate_left; (focus (go_simp <;> with_reducible rfl)); simp only [Act.put, List.setIfInBounds_toArray, List.set_cons_zero, List.set_cons_succ]))
      (refine useq_step rfl rfl rfl (fun K hK => ?_); go_simp)
      have hx1 := (Ext.refl w4).alloc (.cells #[.bool false, .int .i64 0, .slice none 0 0, .slice none 0 0, .string ⟨#[]⟩] 31)
      have hb := Blk.new w4 31 #[.bool false, .int .i64 0, .slice none 0 0, .slice none 0 0, .string ⟨#[]⟩]
      have hG := hx0.size
      replace own4 := own4.ext hx1
      replace hx0 := hx0.trans hx1
      refine hK.out _ _ hx0 ?_
      generalize w4.alloc (.cells #[.bool false, .int .i64 0, .slice none 0 0, .slice none 0 0, .string ⟨#[]⟩] 31) = wg at *
      generalize w4.heap.size = G at *
      (try simp only [Act.put, List.setIfInBounds_toArray, List.set_cons_zero, List.set_cons_succ])
      repeat (first | (refine useq_skip rfl rfl (by assumption) ?_; simp only [Act.put, List.setIfInBounds_toArray, List.set_cons_zero, List.set_cons_succ]) | (refine useq_pure (v := ?_) rfl rfl rfl rfl (fun X => ?_) ?_; rotate_left; (focus (go_simp <;> with_reducible rfl)); simp only [Act.put, List.setIfInBounds_toArray, List.set_cons_zero, List.set_cons_succ]) | (refine useq_read (v := ?_) rfl rfl rfl rfl (fun X hX => ?_) ?_; rotate_left; (focus (go_simp <;> with_reducible rfl)); simp only [Act.put, List.setIfInBounds_toArray, List.set_cons_zero, List.set_cons_succ]))
      have cG := hb.cell
      have fG := hb.frozen
      (refine useq_last rfl rfl rfl rfl (fun K hK => ?_))
      go_simp
      refine hK.out _ _ ?_
      refine useq_nil ?_
      have hfl := fill5_frm wg G (.bool false) (.int .i64 a.al) (.slice B m d) (.slice B' m' d') (.string s)
      have hfin : NewC w2 (((((wg.setCell ⟨G, 0, none⟩ (.bool false)).setCell ⟨G, 1, none⟩ (.int .i64 a.al)).setCell ⟨G, 2, none⟩ (.slice B m d)).setCell ⟨G, 3, none⟩ (.slice B' m' d')).setCell ⟨G, 4, none⟩ (.string s)) G false a s B m d B' m' d' := ⟨fill5_blk hb rfl _ _ _ _ _, own4.own_far5 hb hfl, hx0.frm hfl (fun k hk e => by omega), hG⟩
      go_wp2_with fail
      go_meet
      exact ⟨G, _, _, _, _, _, _, rfl, hfin⟩
    · go_simp
      have hx1 := (Ext.refl wd).alloc (.cells #[.bool false, .int .i64 0, .slice none 0 0, .slice none 0 0, .string ⟨#[]⟩] 31)
      have hb := Blk.new wd 31 #[.bool false, .int .i64 0, .slice none 0 0, .slice none 0 0, .string ⟨#[]⟩]
      have hG := hx0.size
      replace hx0 := hx0.trans hx1
      refine hK.out _ _ hx0 ?_
      generalize wd.alloc (.cells #[.bool false, .int .i64 0, .slice none 0 0, .slice none 0 0, .string ⟨#[]⟩] 31) = wg at *
      generalize wd.heap.size = G at *
      (try simp only [Act.put, List.setIfInBounds_toArray, List.set_cons_zero, List.set_cons_succ])
      repeat (first | (refine useq_skip rfl rfl (by assumption) ?_; simp only [Act.put, List.setIfInBounds_toArray, List.set_cons_zero, List.set_cons_succ]) | (refine useq_pure (v := ?_) rfl rfl rfl rfl (fun X => ?_) ?_; rotate_left; (focus (go_simp <;> with_reducible rfl)); simp only [Act.put, List.setIfInBounds_toArray, List.set_cons_zero, List.set_cons_succ]) | (refine useq_read (v := ?_) rfl rfl rfl rfl (fun X hX => ?_) ?_; rotate_left; (focus (go_simp <;> with_reducible rfl)); simp only [Act.put, List.setIfInBounds_toArray, List.set_cons_zero, List.set_cons_succ]))
      (refine useq_step rfl rfl rfl (fun K hK => ?_); go_simp)
      refine (spec_l3Copy (HS.out _ (hw2.trans hx0)) hs).mono ?_
      rintro e w4 ⟨B, m, d, B', m', d', rfl, own4, hx4⟩
      replace own4 := own4.less hx0.size
      replace hb := hb.ext hx4
      replace hx0 := hx0.trans hx4
      refine hK.out _ _ hx0 ?_
      (try simp only [Act.put, List.setIfInBounds_toArray, List.set_cons_zero, List.set_cons_succ])
      repeat (first | (refine useq_skip rfl rfl (by assumption) ?_; simp only [Act.put, List.setIfInBounds_toArray, List.set_cons_zero, List.set_cons_succ]) | (refine useq_pure (v := ?_) rfl rfl rfl rfl (fun X => ?_) ?_; rotate_left; (focus (go_simp <;> with_reducible rfl)); simp only [Act.put, List.setIfInBounds_toArray, List.set_cons_zero, List.set_cons_succ]) | (refine useq_read (v := ?_) rfl rfl rfl rfl (fun X hX => ?_) ?_; rotate_left; (focus (go_simp <;> with_reducible rfl)); simp only [Act.put, List.setIfInBounds_toArray, List.set_cons_zero, List.set_cons_succ]))
      have cG := hb.cell
      have fG := hb.frozen
      (refine useq_last rfl rfl rfl rfl (fun K hK => ?_))
      go_simp
      refine hK.out _ _ ?_
      refine useq_nil ?_
      have hfl := fill5_frm w4 G (.bool false) (.int .i64 a.al) (.slice B m d) (.slice B' m' d') (.string s)
      have hfin : NewC w2 (((((w4.setCell ⟨G, 0, none⟩ (.bool false)).setCell ⟨G, 1, none⟩ (.int .i64 a.al)).setCell ⟨G, 2, none⟩ (.slice B m d)).setCell ⟨G, 3, none⟩ (.slice B' m' d')).setCell ⟨G, 4, none⟩ (.string s)) G false a s B m d B' m' d' := ⟨fill5_blk hb rfl _ _ _ _ _, own4.own_far5 hb hfl, hx0.frm hfl (fun k hk e => by omega), hG⟩
      go_wp2_with fail
      go_meet
      exact ⟨G, _, _, _, _, _, _, rfl, hfin⟩
  case rest =>
    obtain ⟨G, B, m, d, B', m', d', rfl, hb, own4, hx2, hG⟩ := hcut
    have kG := hb.cell
    have k1 := (b1.ext hx2).cell
    go_wp2_with fail
    refine (spec_CertificateValid _ _ _ _ _ _ _ _ _ _ _ _ own4.reads hs9).mono ?_
    rw [Hv.out]
    rintro e w5 ⟨rfl, hx5⟩
    clear kG k1
    replace hb := hb.ext hx5
    replace own4 := own4.ext hx5
    replace hx2 := hx2.trans hx5
    have kG := hb.cell
    have k1 := (b1.ext hx2).cell
    have hbz := bz.ext hx2
    have cZ := hbz.cell
    have fZ := hbz.frozen
    have hfl := fill5_frm w5 (w.heap.size + 1) (.bool false) (.int .i64 0) (.slice none 0 0) (.slice none 0 0) (.string ⟨#[]⟩)
    have hbf := fill5_blk hbz rfl (.bool false) (.int .i64 0) (.slice none 0 0) (.slice none 0 0) (.string ⟨#[]⟩)
    have hxf := (hw2.trans hx2).frm hfl (fun k hk e => by omega)
    have hfin := hide (show RetCof w false aut0 ⟨#[]⟩ false (.returned (.tuple #[.agg #[.bool false, .int .i64 0, .slice none 0 0, .slice none 0 0, .string ⟨#[]⟩], .bool false])) (((((w5.setCell ⟨w.heap.size + 1, 0, none⟩ (.bool false)).setCell ⟨w.heap.size + 1, 1, none⟩ (.int .i64 0)).setCell ⟨w.heap.size + 1, 2, none⟩ (.slice none 0 0)).setCell ⟨w.heap.size + 1, 3, none⟩ (.slice none 0 0)).setCell ⟨w.heap.size + 1, 4, none⟩ (.string ⟨#[]⟩)) from ⟨none, 0, 0, none, 0, 0, rfl, own_aut0 _ _, hxf⟩)
    go_wp2_with fail
    generalize (((((w5.setCell ⟨w.heap.size + 1, 0, none⟩ (.bool false)).setCell ⟨w.heap.size + 1, 1, none⟩ (.int .i64 0)).setCell ⟨w.heap.size + 1, 2, none⟩ (.slice none 0 0)).setCell ⟨w.heap.size + 1, 3, none⟩ (.slice none 0 0)).setCell ⟨w.heap.size + 1, 4, none⟩ (.string ⟨#[]⟩)) = wf at *
    have cf := hbf.cell
    exact bodyPost_ret (v := .tuple #[.agg #[.bool false, .int .i64 0, .slice none 0 0, .slice none 0 0, .string ⟨#[]⟩], .bool false]) (by simp [results, Try.results5, go_sem, cf]) rfl hfin.out
set_option maxRecDepth 100000 in
theorem impl_CertificateOfo {lo hi : Nat} {A : Option Addr} {n c : Nat} {A' : Option Addr} {n' c' : Nat} {cd ro : Int} {a : Aut} {s : ByteArray} {w : World} (h : AutAt w lo hi A n A' n' a) (hs : a.size ≤ 1048576) (h0 : cd ≠ 0) (h1 : cd ≠ 1) :
    Calls Try.prog 7 #[.agg #[.int .i64 cd, .int .i64 a.al, .slice A n c, .slice A' n' c', .string s, .int .i64 ro]] w (RetCof w false aut0 ⟨#[]⟩ false) := by
  have hc0 : (cd == 0) = false := by simpa using h0
  have hn0 : (cd != 0) = true := by simpa using h0
  have hn1 : (cd != 1) = true := by simpa using h1
  clear h0 h1
  have HS := hide (fun W (hW : Ext w W) => h.ext hW)
  have hss := hs
  clear h
  go_enter Try.func7, Try.ntmps7
  obtain ⟨b1, bz⟩ := ext_blk2 (Ext.refl ((w.alloc (.cells #[.int .i64 cd, .int .i64 a.al, .slice A n c, .slice A' n' c', .string s, .int .i64 ro] 35)).alloc (.cells #[.bool false, .int .i64 0, .slice none 0 0, .slice none 0 0, .string ⟨#[]⟩] 31)))
  have hw2 : Ext w ((w.alloc (.cells #[.int .i64 cd, .int .i64 a.al, .slice A n c, .slice A' n' c', .string s, .int .i64 ro] 35)).alloc (.cells #[.bool false, .int .i64 0, .slice none 0 0, .slice none 0 0, .string ⟨#[]⟩] 31)) := ((Ext.refl w).alloc _).alloc _
  have hsz2 : w.heap.size + 2 = ((w.alloc (.cells #[.int .i64 cd, .int .i64 a.al, .slice A n c, .slice A' n' c', .string s, .int .i64 ro] 35)).alloc (.cells #[.bool false, .int .i64 0, .slice none 0 0, .slice none 0 0, .string ⟨#[]⟩] 31)).heap.size := by simp
  go_upto_region 1 with fail
  generalize (w.alloc (.cells #[.int .i64 cd, .int .i64 a.al, .slice A n c, .slice A' n' c', .string s, .int .i64 ro] 35)).alloc (.cells #[.bool false, .int .i64 0, .slice none 0 0, .slice none 0 0, .string ⟨#[]⟩] 31) = w2 at *
  have k1 := b1.cell
  have hbz := bz
  have cZ := hbz.cell
  have fZ := hbz.frozen
  have hfl := fill5_frm w2 (w.heap.size + 1) (.bool false) (.int .i64 0) (.slice none 0 0) (.slice none 0 0) (.string ⟨#[]⟩)
  have hbf := fill5_blk hbz rfl (.bool false) (.int .i64 0) (.slice none 0 0) (.slice none 0 0) (.string ⟨#[]⟩)
  have hxf := hw2.frm hfl (fun k hk e => by omega)
  have hfin := hide (show RetCof w false aut0 ⟨#[]⟩ false (.returned (.tuple #[.agg #[.bool false, .int .i64 0, .slice none 0 0, .slice none 0 0, .string ⟨#[]⟩], .bool false])) (((((w2.setCell ⟨w.heap.size + 1, 0, none⟩ (.bool false)).setCell ⟨w.heap.size + 1, 1, none⟩ (.int .i64 0)).setCell ⟨w.heap.size + 1, 2, none⟩ (.slice none 0 0)).setCell ⟨w.heap.size + 1, 3, none⟩ (.slice none 0 0)).setCell ⟨w.heap.size + 1, 4, none⟩ (.string ⟨#[]⟩)) from ⟨none, 0, 0, none, 0, 0, rfl, own_aut0 _ _, hxf⟩)
  go_wp2_with fail
  generalize (((((w2.setCell ⟨w.heap.size + 1, 0, none⟩ (.bool false)).setCell ⟨w.heap.size + 1, 1, none⟩ (.int .i64 0)).setCell ⟨w.heap.size + 1, 2, none⟩ (.slice none 0 0)).setCell ⟨w.heap.size + 1, 3, none⟩ (.slice none 0 0)).setCell ⟨w.heap.size + 1, 4, none⟩ (.string ⟨#[]⟩)) = wf at *
  have cf := hbf.cell
  exact bodyPost_ret (v := .tuple #[.agg #[.bool false, .int .i64 0, .slice none 0 0, .slice none 0 0, .string ⟨#[]⟩], .bool false]) (by simp [results, Try.results7, go_sem, cf]) rfl hfin.out
set_option maxRecDepth 100000 in
theorem spec_CertificateOfo {lo hi : Nat} {A : Option Addr} {n c : Nat} {A' : Option Addr} {n' c' : Nat} {cd ro : Int} {a : Aut} {s : ByteArray} {w : World} (h : AutAt w lo hi A n A' n' a) (hs : a.size ≤ 1048576) (h0 : cd ≠ 0) (h1 : cd ≠ 1) :
    Calls Try.prog 5 #[.agg #[.int .i64 cd, .int .i64 a.al, .slice A n c, .slice A' n' c', .string s, .int .i64 ro]] w (RetCof w false aut0 ⟨#[]⟩ false) := by
  have hc0 : (cd == 0) = false := by simpa using h0
  have hn0 : (cd != 0) = true := by simpa using h0
  have hn1 : (cd != 1) = true := by simpa using h1
  clear h0 h1
  have HS := hide (fun W (hW : Ext w W) => h.ext hW)
  have hss := hs
  clear h
  go_enter Try.func5, Try.ntmps5
  obtain ⟨b1, bz⟩ := ext_blk2 (Ext.refl ((w.alloc (.cells #[.int .i64 cd, .int .i64 a.al, .slice A n c, .slice A' n' c', .string s, .int .i64 ro] 35)).alloc (.cells #[.bool false, .int .i64 0, .slice none 0 0, .slice none 0 0, .string ⟨#[]⟩] 31)))
  have hw2 : Ext w ((w.alloc (.cells #[.int .i64 cd, .int .i64 a.al, .slice A n c, .slice A' n' c', .string s, .int .i64 ro] 35)).alloc (.cells #[.bool false, .int .i64 0, .slice none 0 0, .slice none 0 0, .string ⟨#[]⟩] 31)) := ((Ext.refl w).alloc _).alloc _
  have hsz2 : w.heap.size + 2 = ((w.alloc (.cells #[.int .i64 cd, .int .i64 a.al, .slice A n c, .slice A' n' c', .string s, .int .i64 ro] 35)).alloc (.cells #[.bool false, .int .i64 0, .slice none 0 0, .slice none 0 0, .string ⟨#[]⟩] 31)).heap.size := by simp
  go_upto_region 1 with fail
  generalize (w.alloc (.cells #[.int .i64 cd, .int .i64 a.al, .slice A n c, .slice A' n' c', .string s, .int .i64 ro] 35)).alloc (.cells #[.bool false, .int .i64 0, .slice none 0 0, .slice none 0 0, .string ⟨#[]⟩] 31) = w2 at *
  go_cut [4] (fun v wx => ∃ G B m d B' m' d', v = .pointer (some ⟨G, 0, none⟩) ∧ NewC w2 wx G false a s B m d B' m' d')
  case first =>
    have c1 := fun W (hW : Ext w2 W) => (b1.ext hW).cell
    have hww := Ext.refl w2
    refine wp_region_tailU (fun X => Ext w2 X) [10] (OrdU.app [0, 1, 2, 3, 4, 6, 7] (OrdU.two 5 (OrdU.of [8, 9, 10]) 9 (OrdU.of [5, 8, 10]))) (by kernel_rfl) (by kernel_rfl) (by kernel_rfl) (by kernel_rfl) (by kernel_rfl) (fun _ _ _ _ _ h => h) (by first | assumption | exact (Ext.refl _).drew | (refine Ext.drew ?_; assumption)) ?_
    repeat (first | (refine useq_skip rfl rfl (by assumption) ?_; simp only [Act.put, List.setIfInBounds_toArray, List.set_cons_zero, List.set_cons_succ]) | (refine useq_pure (v := ?_) rfl rfl rfl rfl (fun X => ?_) ?_; rotate_left; (focus (go_simp <;> with_reducible rfl)); simp only [Act.put, List.setIfInBounds_toArray, List.set_cons_zero, List.set_cons_succ]) | (refine useq_read (v := ?_) rfl rfl rfl rfl (fun X hX => ?_) ?_; rotate_left; (focus (go_simp <;> with_reducible rfl)); simp only [Act.put, List.setIfInBounds_toArray, List.set_cons_zero, List.set_cons_succ]))
    have hx0 : Ext w2 w2.drew := hww.drew
    generalize w2.drew = wd at *
    refine useq_both rfl rfl rfl rfl (fun K hK => ?_) (fun K hK => ?_)
    · go_simp
      refine (spec_l3Copy (HS.out _ (hw2.trans hx0)) hs).mono ?_
      rintro e w4 ⟨B, m, d, B', m', d', rfl, own4, hx4⟩
      replace own4 := own4.less hx0.size
      replace hx0 := hx0.trans hx4
      refine hK.out _ _ hx0 ?_
      (try simp only [Act.put, List.setIfInBounds_toArray, List.set_cons_zero, List.set_cons_succ])
      repeat (first | (refine useq_skip rfl rfl (by assumption) ?_; simp only [Act.put, List.setIfInBounds_toArray, List.set_cons_zero, List.set_cons_succ]) | (refine useq_pure (v := ?_) rfl rfl rfl rfl (fun X => ?_) ?_; rotate_left; (focus (go_simp <;> with_reducible rfl)); simp only [Act.put, List.setIfInBounds_toArray, List.set_cons_zero, List.set_cons_succ]) | (refine useq_read (v := ?_) rfl rfl rfl rfl (fun X hX => ?_) ?_; rotate_left; (focus (go_simp <;> with_reducible rfl)); simp only [Act.put, List.setIfInBounds_toArray, List.set_cons_zero, List.set_cons_succ]))
      (refine useq_step rfl rfl rfl (fun K hK => ?_); go_simp)
      have hx1 := (Ext.refl w4).alloc (.cells #[.bool false, .int .i64 0, .slice none 0 0, .slice none 0 0, .string ⟨#[]⟩] 31)
      have hb := Blk.new w4 31 #[.bool false, .int .i64 0, .slice none 0 0, .slice none 0 0, .string ⟨#[]⟩]
      have hG := hx0.size
      replace own4 := own4.ext hx1
      replace hx0 := hx0.trans hx1
      refine hK.out _ _ hx0 ?_
      generalize w4.alloc (.cells #[.bool false, .int .i64 0, .slice none 0 0, .slice none 0 0, .string ⟨#[]⟩] 31) = wg at *
      generalize w4.heap.size = G at *
      (try simp only [Act.put, List.setIfInBounds_toArray, List.set_cons_zero, List.set_cons_succ])
      repeat (first | (refine useq_skip rfl rfl (by assumption) ?_; simp only [Act.put, List.setIfInBounds_toArray, List.set_cons_zero, List.set_cons_succ]) | (refine useq_pure (v := ?_) rfl rfl rfl rfl (fun X => ?_) ?_; rotate_left; (focus (go_simp <;> with_reducible rfl)); simp only [Act.put, List.setIfInBounds_toArray, List.set_cons_zero, List.set_cons_succ]) | (refine useq_read (v := ?_) rfl rfl rfl rfl (fun X hX => ?_) ?_; rotate_left; (focus (go_simp <;> with_reducible rfl)); simp only [Act.put, List.setIfInBounds_toArray, List.set_cons_zero, List.set_cons_succ]))
      have cG := hb.cell
      have fG := hb.frozen
      (refine useq_last rfl rfl rfl rfl (fun K hK => ?_))
      go_simp
      refine hK.out _ _ ?_
      refine useq_nil ?_
      have hfl := fill5_frm wg G (.bool false) (.int .i64 a.al) (.slice B m d) (.slice B' m' d') (.string s)
      have hfin : NewC w2 (((((wg.setCell ⟨G, 0, none⟩ (.bool false)).setCell ⟨G, 1, none⟩ (.int .i64 a.al)).setCell ⟨G, 2, none⟩ (.slice B m d)).setCell ⟨G, 3, none⟩ (.slice B' m' d')).setCell ⟨G, 4, none⟩ (.string s)) G false a s B m d B' m' d' := ⟨fill5_blk hb rfl _ _ _ _ _, own4.own_far5 hb hfl, hx0.frm hfl (fun k hk e => by omega), hG⟩
      go_wp2_with fail
      go_meet
      exact ⟨G, _, _, _, _, _, _, rfl, hfin⟩
    · go_simp
      have hx1 := (Ext.refl wd).alloc (.cells #[.bool false, .int .i64 0, .slice none 0 0, .slice none 0 0, .string ⟨#[]⟩] 31)
      have hb := Blk.new wd 31 #[.bool false, .int .i64 0, .slice none 0 0, .slice none 0 0, .string ⟨#[]⟩]
      have hG := hx0.size
      replace hx0 := hx0.trans hx1
      refine hK.out _ _ hx0 ?_
      generalize wd.alloc (.cells #[.bool false, .int .i64 0, .slice none 0 0, .slice none 0 0, .string ⟨#[]⟩] 31) = wg at *
      generalize wd.heap.size = G at *
      (try simp only [Act.put, List.setIfInBounds_toArray, List.set_cons_zero, List.set_cons_succ])
      repeat (first | (refine useq_skip rfl rfl (by assumption) ?_; simp only [Act.put, List.setIfInBounds_toArray, List.set_cons_zero, List.set_cons_succ]) | (refine useq_pure (v := ?_) rfl rfl rfl rfl (fun X => ?_) ?_; rotate_left; (focus (go_simp <;> with_reducible rfl)); simp only [Act.put, List.setIfInBounds_toArray, List.set_cons_zero, List.set_cons_succ]) | (refine useq_read (v := ?_) rfl rfl rfl rfl (fun X hX => ?_) ?_; rotate_left; (focus (go_simp <;> with_reducible rfl)); simp only [Act.put, List.setIfInBounds_toArray, List.set_cons_zero, List.set_cons_succ]))
      (refine useq_step rfl rfl rfl (fun K hK => ?_); go_simp)
      refine (spec_l3Copy (HS.out _ (hw2.trans hx0)) hs).mono ?_
      rintro e w4 ⟨B, m, d, B', m', d', rfl, own4, hx4⟩
      replace own4 := own4.less hx0.size
      replace hb := hb.ext hx4
      replace hx0 := hx0.trans hx4
      refine hK.out _ _ hx0 ?_
      (try simp only [Act.put, List.setIfInBounds_toArray, List.set_cons_zero, List.set_cons_succ])
      repeat (first | (refine useq_skip rfl rfl (by assumption) ?_; simp only [Act.put, List.setIfInBounds_toArray, List.set_cons_zero, List.set_cons_succ]) | (refine useq_pure (v := ?_) rfl rfl rfl rfl (fun X => ?_) ?_; rotate_left; (focus (go_simp <;> with_reducible rfl)); simp only [Act.put, List.setIfInBounds_toArray, List.set_cons_zero, List.set_cons_succ]) | (refine useq_read (v := ?_) rfl rfl rfl rfl (fun X hX => ?_) ?_; rotate_left; (focus (go_simp <;> with_reducible rfl)); simp only [Act.put, List.setIfInBounds_toArray, List.set_cons_zero, List.set_cons_succ]))
      have cG := hb.cell
      have fG := hb.frozen
      (refine useq_last rfl rfl rfl rfl (fun K hK => ?_))
      go_simp
      refine hK.out _ _ ?_
      refine useq_nil ?_
      have hfl := fill5_frm w4 G (.bool false) (.int .i64 a.al) (.slice B m d) (.slice B' m' d') (.string s)
      have hfin : NewC w2 (((((w4.setCell ⟨G, 0, none⟩ (.bool false)).setCell ⟨G, 1, none⟩ (.int .i64 a.al)).setCell ⟨G, 2, none⟩ (.slice B m d)).setCell ⟨G, 3, none⟩ (.slice B' m' d')).setCell ⟨G, 4, none⟩ (.string s)) G false a s B m d B' m' d' := ⟨fill5_blk hb rfl _ _ _ _ _, own4.own_far5 hb hfl, hx0.frm hfl (fun k hk e => by omega), hG⟩
      go_wp2_with fail
      go_meet
      exact ⟨G, _, _, _, _, _, _, rfl, hfin⟩
  case rest =>
    obtain ⟨G, B, m, d, B', m', d', rfl, hb, own4, hx2, hG⟩ := hcut
    have k1 := (b1.ext hx2).cell
    have hbz := bz.ext hx2
    have cZ := hbz.cell
    have fZ := hbz.frozen
    have hfl := fill5_frm wc (w.heap.size + 1) (.bool false) (.int .i64 0) (.slice none 0 0) (.slice none 0 0) (.string ⟨#[]⟩)
    have hbf := fill5_blk hbz rfl (.bool false) (.int .i64 0) (.slice none 0 0) (.slice none 0 0) (.string ⟨#[]⟩)
    have hxf := (hw2.trans hx2).frm hfl (fun k hk e => by omega)
    have hfin := hide (show RetCof w false aut0 ⟨#[]⟩ false (.returned (.tuple #[.agg #[.bool false, .int .i64 0, .slice none 0 0, .slice none 0 0, .string ⟨#[]⟩], .bool false])) (((((wc.setCell ⟨w.heap.size + 1, 0, none⟩ (.bool false)).setCell ⟨w.heap.size + 1, 1, none⟩ (.int .i64 0)).setCell ⟨w.heap.size + 1, 2, none⟩ (.slice none 0 0)).setCell ⟨w.heap.size + 1, 3, none⟩ (.slice none 0 0)).setCell ⟨w.heap.size + 1, 4, none⟩ (.string ⟨#[]⟩)) from ⟨none, 0, 0, none, 0, 0, rfl, own_aut0 _ _, hxf⟩)
    go_wp2_with fail
    generalize (((((wc.setCell ⟨w.heap.size + 1, 0, none⟩ (.bool false)).setCell ⟨w.heap.size + 1, 1, none⟩ (.int .i64 0)).setCell ⟨w.heap.size + 1, 2, none⟩ (.slice none 0 0)).setCell ⟨w.heap.size + 1, 3, none⟩ (.slice none 0 0)).setCell ⟨w.heap.size + 1, 4, none⟩ (.string ⟨#[]⟩)) = wf at *
    have cf := hbf.cell
    exact bodyPost_ret (v := .tuple #[.agg #[.bool false, .int .i64 0, .slice none 0 0, .slice none 0 0, .string ⟨#[]⟩], .bool false]) (by simp [results, Try.results5, go_sem, cf]) rfl hfin.out
def hdX (cd : Int) (a : Aut) (s : ByteArray) : Bool := okC cd a s && decide (cd = 0)
def autX (cd : Int) (a : Aut) (s : ByteArray) : Aut := if okC cd a s then a else aut0
def strX (cd : Int) (a : Aut) (s : ByteArray) : ByteArray := if okC cd a s then s else ⟨#[]⟩
/-- What CertificateOf answers, of any verdict. -/
theorem impl_CertificateOf {lo hi : Nat} {A : Option Addr} {n c : Nat} {A' : Option Addr} {n' c' : Nat} {cd ro : Int} {a : Aut} {s : ByteArray} {w : World} (h : AutAt w lo hi A n A' n' a) (hs : a.size ≤ 1048576) (hs9 : s.size ≤ 9223372036854775807) :
    Calls Try.prog 7 #[.agg #[.int .i64 cd, .int .i64 a.al, .slice A n c, .slice A' n' c', .string s, .int .i64 ro]] w (RetCof w (hdX cd a s) (autX cd a s) (strX cd a s) (okC cd a s)) := by
  by_cases h0 : cd = 0
  · subst h0
    cases hv : certValid true a s
    · have := impl_CertificateOf0f h hs hs9 hv (c := c) (c' := c') (ro := ro)
      simpa [hdX, autX, strX, okC0, hv] using this
    · have := impl_CertificateOf0t h hs hs9 hv (c := c) (c' := c') (ro := ro)
      simpa [hdX, autX, strX, okC0, hv] using this
  · by_cases h1 : cd = 1
    · subst h1
      cases hv : certValid false a s
      · have := impl_CertificateOf1f h hs hs9 hv (c := c) (c' := c') (ro := ro)
        simpa [hdX, autX, strX, okC1, hv] using this
      · have := impl_CertificateOf1t h hs hs9 hv (c := c) (c' := c') (ro := ro)
        simpa [hdX, autX, strX, okC1, hv] using this
    · have := impl_CertificateOfo h hs h0 h1 (s := s) (c := c) (c' := c') (ro := ro)
      simpa [hdX, autX, strX, okC, h0, h1] using this
/-- What CertificateOf answers, of any verdict. -/
theorem spec_CertificateOf {lo hi : Nat} {A : Option Addr} {n c : Nat} {A' : Option Addr} {n' c' : Nat} {cd ro : Int} {a : Aut} {s : ByteArray} {w : World} (h : AutAt w lo hi A n A' n' a) (hs : a.size ≤ 1048576) (hs9 : s.size ≤ 9223372036854775807) :
    Calls Try.prog 5 #[.agg #[.int .i64 cd, .int .i64 a.al, .slice A n c, .slice A' n' c', .string s, .int .i64 ro]] w (RetCof w (hdX cd a s) (autX cd a s) (strX cd a s) (okC cd a s)) := by
  by_cases h0 : cd = 0
  · subst h0
    cases hv : certValid true a s
    · have := spec_CertificateOf0f h hs hs9 hv (c := c) (c' := c') (ro := ro)
      simpa [hdX, autX, strX, okC0, hv] using this
    · have := spec_CertificateOf0t h hs hs9 hv (c := c) (c' := c') (ro := ro)
      simpa [hdX, autX, strX, okC0, hv] using this
  · by_cases h1 : cd = 1
    · subst h1
      cases hv : certValid false a s
      · have := spec_CertificateOf1f h hs hs9 hv (c := c) (c' := c') (ro := ro)
        simpa [hdX, autX, strX, okC1, hv] using this
      · have := spec_CertificateOf1t h hs hs9 hv (c := c) (c' := c') (ro := ro)
        simpa [hdX, autX, strX, okC1, hv] using this
    · have := spec_CertificateOfo h hs h0 h1 (s := s) (c := c) (c' := c') (ro := ro)
      simpa [hdX, autX, strX, okC, h0, h1] using this
end Go.Proofs.Ytekobefenngedaa
