/- slices.SortFunc at edges, by the library's own contract (its laying: XSortL). | impl.ComposeSystems, walked. | What the law on composition draws, walked: l2Small and DrawComposeSystems. | Bytes, as a row's argument. -/
import Derived.Test.YtcmgkekaeafgaaaDoorG11
import Derived.Test.YtcmgkekaeafgaaaDoorG05
import Derived.Test.YtcmgkekaeafgaaaDoorG03
import Derived.Test.YtcmgkekaeafgaaaDoorG04
import Derived.Test.YtcmgkekaeafgaaaDoorG12
import Derived.Test.YtcmgkekaeafgaaaDoorG02
import Derived.Test.YtcmgkekaeafgaaaDoorG08
namespace Go.Proofs.YtcmgkekaeafgaaaDoor
open Go Go.RowKit Go.Lib Go.Shelf
set_option maxHeartbeats 4000000

theorem lt_cmpE (x y : Edg) : ltOf cmpE x y = ltE x y := by
  unfold ltOf
  have := cmpE_lt x y
  cases h : ltE x y
  · exact decide_eq_false (fun hc => by rw [this.1 hc] at h; cases h)
  · exact decide_eq_true (this.2 h)
theorem swoE : Sort.SWO (ltOf cmpE) where
  irrefl x := by
    rw [lt_cmpE]
    cases h : ltE x x
    · rfl
    · exact absurd h ltE_irr
  trans x y z h1 h2 := by
    rw [lt_cmpE] at *
    exact ltE_trans h1 h2
  ntrans x y z h1 h2 := by
    rw [lt_cmpE] at *
    cases h : ltE x z
    · rfl
    · rcases ltE_tri x y with h3 | h3 | h3
      · rw [h3] at h1; cases h1
      · subst h3; rw [h] at h2; cases h2
      · have := ltE_trans h3 h
        rw [this] at h2; cases h2
/-- What the sort leaves. -/
def RetSort (w : World) (base g n cap : Nat) (es : List Edg) (e : Ending) (w' : World) : Prop :=
  e = .returned (.tuple #[]) ∧ ∃ es', Hid (es'.length = es.length ∧ Srt es' ∧ (∀ x, x ∈ es' ↔ x ∈ es) ∧ es'.Perm es) ∧ w'.ownsRow base 65 3 (.slice (some ⟨g, 0, none⟩) n cap) n (edgeCells es') ∧ Frm (fun k => k = g) w w'
theorem sort_any {w : World} {base g n cap : Nat} {es : List Edg} (h : w.ownsRow base 65 3 (.slice (some ⟨g, 0, none⟩) n cap) n (edgeCells es)) (hn4 : n ≤ 1048576) :
    Calls Tryd.prog 38 #[.slice (some ⟨g, 0, none⟩) n cap, .func (.func 39) #[] #[]] w (RetSort w base g n cap es) := by
  have hl : es.length = n := by have := h.1; rw [edgeCells_length] at this; omega
  have eg : ∀ args w, (callFunc 39 args).run Tryd.prog w = .ok (.enter 39 args) w := enters_of Tryd.func39 (by kernel_rfl) rfl
  have hblk := (h.lt g rfl).2
  have hcmp : CmpLays Tryd.prog 39 #[] encE 3 cmpE g 0 es.toArray.size w := fun _ _ _ _ x y => compareEdges_g
  have hcon := AnyQ.slices_SortFunc sortEdge 3 Tryd.isAgg65 Tryd.sizeOf65 encE (fun _ => rfl) (fun x v hv => by simp [encE] at hv; rcases hv with rfl | rfl | rfl <;> rfl) cmpE swoE 39 #[] g 0 cap es.toArray w eg hcmp (holds_edge h) hblk (by simp; omega)
  change Calls Tryd.prog 38 _ _ _ at hcon
  rw [show es.toArray.size = n by simpa using hl] at hcon
  refine hcon.mono ?_
  rintro e w' ⟨rfl, d', m, os, hp, hs, rfl⟩
  have hsz : d'.size = n := by rw [hp.1]; simpa using hl
  obtain ⟨o1, o2⟩ := own_sorted (m := m) (es' := d'.toList) (os := os) h (by simp; omega)
  rw [Array.toArray_toList] at o1 o2
  refine ⟨rfl, d'.toList, (show Hid _ from ⟨by simp; omega, fun i j x y hx hy hij => ?_, fun x => ?_, ?_⟩), o1, o2⟩
  · have hj : j < n := by rw [← hsz]; simpa using (List.getElem?_eq_some_iff.1 hy).1
    have h1 := hs i j (Nat.zero_le _) hij hj
    have hx2 := cell_get (d := d') (k := i) (by omega)
    have hy2 := cell_get (d := d') (k := j) (by omega)
    rw [hx] at hx2
    rw [hy] at hy2
    rw [← Option.some.inj hx2, ← Option.some.inj hy2, lt_cmpE] at h1
    rw [h1]; decide
  · have h2 := hp.2.2.mem_iff (a := x)
    have e1 : (d'.extract 0 n).toList = d'.toList := by rw [← hsz]; simp
    have e2 : (es.toArray.extract 0 n).toList = es := by rw [← hl]; simp
    rw [e1, e2] at h2
    exact h2
  · have h2 := hp.2.2
    have e1 : (d'.extract 0 n).toList = d'.toList := by rw [← hsz]; simp
    have e2 : (es.toArray.extract 0 n).toList = es := by rw [← hl]; simp
    rw [e1, e2] at h2
    exact h2
theorem sort_none (w : World) : Calls Tryd.prog 38 #[.slice none 0 0, .func (.func 39) #[] #[]] w fun e w' => e = .returned (.tuple #[]) ∧ w = w' := by
  have hcon := AnyF.slices_SortFunc_none sortEdge none 0 (.func (.func 39) #[] #[]) w
  change Calls Tryd.prog 38 _ _ _ at hcon
  exact hcon.mono fun e w' ⟨h1, h2⟩ => ⟨h1, h2.symm⟩
end Go.Proofs.YtcmgkekaeafgaaaDoor

namespace Go.Proofs.YtcmgkekaeafgaaaDoor
open Go Go.RowKit
set_option maxHeartbeats 2000000

theorem next_nil {lo hi k c lo' hi' d m l : Nat} {A M : Option Addr} {ss : List Sys} {w : World} (h : PtAt w lo hi A k lo' hi' M ss) (hs : ∀ s ∈ ss, Sml s) (hk4 : k ≤ 4) (hm : m ≤ 4611686018427387904) (hl : l < 6) (hT : Tab w) :
    Calls Tryd.prog 36 #[.agg #[.slice A k c, .slice M k d], .int .i64 m, .int .i64 l, .slice none 0 0] w (RetNats w (nx ss m l).1) := by
  refine (impl_next h hs hk4 hm hl hT (World.ownsRow_nil w w.heap.size _ _) (Nat.le_refl _) (by omega)).mono ?_
  rintro e w' ⟨v', rfl, hown, hf, _⟩
  simp only [List.length_nil, Nat.zero_add, List.nil_append] at hown
  obtain ⟨A', c', rfl⟩ := own_form hown
  exact ⟨A', c', rfl, hown, hf.mono (fun b _ hb => by simp [Value.ownBlock] at hb)⟩
theorem SLAt.two {w : World} {lo hi lo' hi' n c m d L : Nat} {A B : Option Addr} {s u : Sys} (hs : SysAt w lo hi A n s) (hu : SysAt w lo' hi' B m u)
    (hL : Blk w L 25 #[.int .i64 s.al, .int .i64 s.st, .slice A n c, .int .i64 u.al, .int .i64 u.st, .slice B m d]) : SLAt w 0 (hi + hi' + w.heap.size) (some ⟨L, 0, none⟩) 2 [s, u] := by
  refine ⟨rfl, [.int .i64 s.al, .int .i64 s.st, .slice A n c, .int .i64 u.al, .int .i64 u.st, .slice B m d], ⟨rfl, by omega, fun _ => ⟨⟨L, 0, none⟩, rfl, Nat.zero_le _, by have := hL.lt; show L < _; omega, fun j x hx => ?_⟩⟩, fun k x hx => ?_⟩
  · rw [addr_lit, Nat.zero_add, hL.cell]
    simpa using hx
  · match k with
    | 0 => simp at hx; subst hx; exact ⟨A, n, c, rfl, rfl, rfl, hs.more (Nat.zero_le _) (by omega)⟩
    | 1 => simp at hx; subst hx; exact ⟨B, m, d, rfl, rfl, rfl, hu.more (Nat.zero_le _) (by omega)⟩
    | k + 2 => simp at hx
/-- Two systems that run together, in whatever world their parts stand. -/
theorem PtAt.two {w : World} {lo hi lo' hi' n c m d L lo2 hi2 : Nat} {A B M : Option Addr} {bs : List Nat} {s u : Sys} (hs : SysAt w lo hi A n s) (hu : SysAt w lo' hi' B m u)
    (hL : Blk w L 25 #[.int .i64 s.al, .int .i64 s.st, .slice A n c, .int .i64 u.al, .int .i64 u.st, .slice B m d]) (hM : Reads w lo2 hi2 1 M 2 (ptrs bs)) (hmv : MovL w bs [s, u]) :
    PtAt w 0 (hi + hi' + w.heap.size) (some ⟨L, 0, none⟩) 2 lo2 hi2 M [s, u] := by
  exact ⟨SLAt.two hs hu hL, bs, hM, hmv⟩
theorem fillC_frm (W : World) (Z : Nat) (u0 u1 u2 : Value) : Frm (fun k => k = Z) W (((W.setCell ⟨Z, 0, none⟩ u0).setCell ⟨Z, 1, none⟩ u1).setCell ⟨Z, 2, none⟩ u2) :=
  ((Frm.setCell W Z 0 u0).trans (Frm.setCell _ Z 1 u1)).trans (Frm.setCell _ Z 2 u2)
theorem fillC_blk {w : World} {Z : Nat} {cs : Array Value} {t : TypeId} (h : Blk w Z t cs) (hc : cs.size = 3) (u0 u1 u2 : Value) : Blk (((w.setCell ⟨Z, 0, none⟩ u0).setCell ⟨Z, 1, none⟩ u1).setCell ⟨Z, 2, none⟩ u2) Z t #[u0, u1, u2] := by
  obtain ⟨l⟩ := cs
  match l, hc with
  | [a, b, c], _ => simpa using ((h.set_ 0 u0).set_ 1 u1).set_ 2 u2
/-- The pairs found so far. -/
structure InvP (N : Nat) (P : List Nat) : Prop where
  zero : P[0]? = some 0
  nodup : P.Nodup
  lt : ∀ m ∈ P, m < N
  len : P.length ≤ 16
theorem InvP.push {N : Nat} {P : List Nat} {n : Nat} (h : InvP N P) (hn : n ∉ P) (hN : n < N) (hl : P.length ≠ 16) : InvP N (P ++ [n]) := by
  refine ⟨?_, ?_, fun m hm => ?_, ?_⟩
  · rw [List.getElem?_append_left (List.getElem?_eq_some_iff.1 h.zero).1]; exact h.zero
  · rw [List.nodup_append]
    exact ⟨h.nodup, by simp, fun a ha b hb => by
      rw [List.mem_singleton.1 hb]
      rintro rfl
      exact hn ha⟩
  · rcases List.mem_append.1 hm with h1 | h1
    · exact h.lt m h1
    · rw [List.mem_singleton.1 h1]; exact hN
  · have := h.len
    rw [List.length_append, List.length_singleton]
    omega
/-- The first i pairs have been looked at. -/
def CLd (s u : Sys) (Ls P : List Nat) (i : Nat) : Prop := ∀ a, a < i → ∀ m, P[a]? = some m → ∀ l ∈ Ls, ∀ n ∈ nxt s u m l, n ∈ P
theorem CLd.push {s u : Sys} {Ls P : List Nat} {i n : Nat} (h : CLd s u Ls P i) (hi : i ≤ P.length) : CLd s u Ls (P ++ [n]) i := fun a ha m hm l hl k hk =>
  List.mem_append_left _ (h a ha m (by rwa [List.getElem?_append_left (by omega)] at hm) l hl k hk)
/-- Where the pairs and their numbers lie. -/
def StP (w8 wr : World) (MB : Nat) (pv : Value) (P : List Nat) : Prop :=
  wr.ownsRow w8.heap.size 3 1 pv P.length (nats P) ∧ (∃ Mf, MapI wr MB P.length Mf ∧ ∀ x, x < 1152921504606846976 → ((Mf x).isSome = true ↔ x ∈ P)) ∧ Ext w8 wr
theorem StP.ext {w8 wr wr' : World} {MB : Nat} {pv : Value} {P : List Nat} (h : StP w8 wr MB pv P) (hx : Ext wr wr') : StP w8 wr' MB pv P := by
  obtain ⟨h1, ⟨Mf, h2, h3⟩, h4⟩ := h
  exact ⟨own_ext h1 hx, ⟨Mf, h2.ext hx, h3⟩, h4.trans hx⟩
/-- What ComposeSystems answers. -/
def RetComp (w : World) (s u : Sys) (e : Ending) (w' : World) : Prop :=
  (e = .returned (.tuple #[.agg #[.int .i64 0, .int .i64 0, .slice none 0 0], .bool false]) ∧ Ext w w') ∨
  ∃ (x : Sys) (A : Option Addr) (n c : Nat), e = .returned (.tuple #[.agg #[.int .i64 x.al, .int .i64 x.st, .slice A n c], .bool true]) ∧ Hid (CompOf s u u.st.toNat x) ∧ SysAt w' w.heap.size w'.heap.size A n x ∧ Ext w w'
set_option maxRecDepth 100000 in
theorem impl_ComposeSystems {lo hi lo' hi' n c m d : Nat} {A B : Option Addr} {s u : Sys} {w : World} (h : SysAt w lo hi A n s) (h' : SysAt w lo' hi' B m u) (hT : Tab w) (hvs : sysValid s = true) (hvu : sysValid u = true) :
    Calls Tryd.prog 14 #[.agg #[.int .i64 s.al, .int .i64 s.st, .slice A n c], .agg #[.int .i64 u.al, .int .i64 u.st, .slice B m d]] w (RetComp w s u) := by
  have HS := hide (fun W (hW : Ext w W) => h.ext hW)
  have HU := hide (fun W (hW : Ext w W) => h'.ext hW)
  have HT := hide (fun W (hW : Ext w W) => hT.ext hW)
  have Hvs := hide hvs
  have Hvu := hide hvu
  have hss := hide (sml_valid hvs)
  have hsu := hide (sml_valid hvu)
  clear h h' hT hvs hvu
  obtain ⟨a, ha⟩ : ∃ a : Nat, Hid (s.al = a) := ⟨s.al.toNat, hide (by have := hss.out.2.2.2; omega)⟩
  obtain ⟨b, hb⟩ : ∃ b : Nat, Hid (u.al = b) := ⟨u.al.toNat, hide (by have := hsu.out.2.2.2; omega)⟩
  have hsa : Sm a := by have := hss.out.2.2.2; have := ha.out; unfold Sm; omega
  have hsb : Sm b := by have := hsu.out.2.2.2; have := hb.out; unfold Sm; omega
  obtain ⟨al, hal⟩ : ∃ al : Nat, Hid (s.al.toNat ||| u.al.toNat = al) := ⟨_, hide rfl⟩
  have hor := hide (show bits .or .i64 s.al u.al = (al : Int) by
    have h1 := bits_or hsa hsb
    rw [← ha.out, ← hb.out] at h1
    rw [h1, ← hal.out, show s.al.toNat = a by have := ha.out; omega, show u.al.toNat = b by have := hb.out; omega])
  have hal6 : al < 64 := by
    rw [← hal.out]
    exact Nat.or_lt_two_pow (n := 6) (by have := hss.out.2.2.2; omega) (by have := hsu.out.2.2.2; omega)
  have hsl : Sm al := by unfold Sm; omega
  have hfew := hide (show ∀ x ∈ [s, u], Few 16 x.edges from fun x hx e he => by
    have hx' : Sml x := by simp at hx; rcases hx with rfl | rfl; exact hss.out; exact hsu.out
    have := hx'.2.2.1 e he
    have := hx'.2.1
    omega)
  have hmm := @run_makeMap Tryd.prog
  go_enter Tryd.func14, Tryd.ntmps14
  obtain ⟨b1, b2, bz⟩ := ext_blk3 (Ext.refl (((w.alloc (.cells #[.int .i64 s.al, .int .i64 s.st, .slice A n c] 25)).alloc (.cells #[.int .i64 u.al, .int .i64 u.st, .slice B m d] 25)).alloc (.cells #[.int .i64 0, .int .i64 0, .slice none 0 0] 25)))
  have hw2 : Ext w (((w.alloc (.cells #[.int .i64 s.al, .int .i64 s.st, .slice A n c] 25)).alloc (.cells #[.int .i64 u.al, .int .i64 u.st, .slice B m d] 25)).alloc (.cells #[.int .i64 0, .int .i64 0, .slice none 0 0] 25)) := (((Ext.refl w).alloc _).alloc _).alloc _
  have k1 := b1.cell
  have k2 := b2.cell
  go_upto_region 1 with fail
  generalize ((w.alloc (.cells #[.int .i64 s.al, .int .i64 s.st, .slice A n c] 25)).alloc (.cells #[.int .i64 u.al, .int .i64 u.st, .slice B m d] 25)).alloc (.cells #[.int .i64 0, .int .i64 0, .slice none 0 0] 25) = w2 at *
  go_wp2_with fail
  refine (impl_SystemValid (HS.out _ hw2)).mono ?_
  rw [Hvs.out]
  rintro e w3 ⟨rfl, hx3⟩
  replace b1 := b1.ext hx3
  replace b2 := b2.ext hx3
  replace bz := bz.ext hx3
  replace hw2 := hw2.trans hx3
  clear k1 k2
  have k2 := b2.cell
  go_wp2_with fail
  refine (impl_SystemValid (HU.out _ hw2)).mono ?_
  rw [Hvu.out]
  rintro e w4 ⟨rfl, hx4⟩
  replace b1 := b1.ext hx4
  replace b2 := b2.ext hx4
  replace bz := bz.ext hx4
  replace hw2 := hw2.trans hx4
  clear k2 hx3 hx4
  have k1 := b1.cell
  have k2 := b2.cell
  go_upto_region 4 with fail
  rw [hor.out]
  obtain ⟨G, hG⟩ : ∃ G, Hid (G = w4.heap.size) := ⟨_, hide rfl⟩
  have hGw : w.heap.size + 3 ≤ G := by have := bz.lt; have := hG.out; omega
  have hx5 := (Ext.refl w4).alloc (.cells #[.int .i64 (al : Int), .int .i64 0, .slice none 0 0] 25)
  have bG := Blk.new w4 25 #[.int .i64 (al : Int), .int .i64 0, .slice none 0 0]
  rw [← hG.out] at bG
  have hGlt := bG.lt
  replace b1 := b1.ext hx5
  replace b2 := b2.ext hx5
  replace bz := bz.ext hx5
  replace hw2 := hw2.trans hx5
  rw [← hG.out]
  clear k1 k2
  generalize w4.alloc (.cells #[.int .i64 (al : Int), .int .i64 0, .slice none 0 0] 25) = w5 at *
  have k1 := b1.cell
  have k2 := b2.cell
  have hxL := (Ext.refl w5).alloc (.cells #[.int .i64 s.al, .int .i64 s.st, .slice A n c, .int .i64 u.al, .int .i64 u.st, .slice B m d] 25)
  have bL := Blk.new w5 25 #[.int .i64 s.al, .int .i64 s.st, .slice A n c, .int .i64 u.al, .int .i64 u.st, .slice B m d]
  obtain ⟨L, hL⟩ : ∃ L, Hid (L = w5.heap.size) := ⟨_, hide rfl⟩
  rw [← hL.out] at bL
  have hLw : w.heap.size ≤ L := by have := hL.out; have := hw2.size; omega
  have hSL := SLAt.two (HS.out _ (hw2.trans hxL)) (HU.out _ (hw2.trans hxL)) bL
  go_wp2_with fail
  rw [← hL.out]
  refine (impl_newParts hSL hfew.out (by omega)).mono ?_
  rintro e w6 ⟨M, dM, rfl, hPt, hx6⟩
  have bL6 := bL.ext hx6
  replace hx6 := hxL.trans hx6
  replace b1 := b1.ext hx6
  replace b2 := b2.ext hx6
  replace bz := bz.ext hx6
  replace bG := bG.ext hx6
  obtain ⟨bs, hMr, hmv⟩ := hPt.mov
  obtain ⟨lo2, hlo2, hMr⟩ : ∃ lo2, G < lo2 ∧ Reads w6 lo2 w6.heap.size 1 M 2 (ptrs bs) := ⟨_, by have := hxL.size; omega, hMr⟩
  replace hw2 := hw2.trans hx6
  clear hPt hSL bL hxL hx6 k1 k2
  go_upto_region 5 with fail
  have hx7 := (Ext.refl w6).alloc (.cells #[.slice (some ⟨L, 0, none⟩) 2 2, .slice M 2 dM] 57)
  have bP := Blk.new w6 57 #[.slice (some ⟨L, 0, none⟩) 2 2, .slice M 2 dM]
  obtain ⟨PB, hPB⟩ : ∃ PB, Hid (PB = w6.heap.size) := ⟨_, hide rfl⟩
  rw [← hPB.out] at bP
  replace bz := bz.ext hx7
  replace bG := bG.ext hx7
  replace bL6 := bL6.ext hx7
  replace hMr := hMr.ext hx7
  replace hmv := hmv.ext hx7
  replace hw2 := hw2.trans hx7
  rw [← hPB.out]
  clear b1 b2 hx7
  generalize w6.alloc (.cells #[.slice (some ⟨L, 0, none⟩) 2 2, .slice M 2 dM] 57) = w7 at *
  have kG := bG.cell
  have hGw7 : G < w7.heap.size := bG.lt
  go_wp2_with fail
  refine (impl_lettersOf al hsl _).mono ?_
  rintro e w8 ⟨AL, cL, rfl, hLs, hx8⟩
  replace bz := bz.ext hx8
  replace bG := bG.ext hx8
  replace bL6 := bL6.ext hx8
  replace bP := bP.ext hx8
  replace hMr := hMr.ext hx8
  replace hmv := hmv.ext hx8
  replace hw2 := hw2.trans hx8
  clear kG
  have hLl := letters_length al 6
  have hLm := hide (show ∀ l ∈ letters al 6, l < 6 from fun l hl => (letters_mem.1 hl).1)
  have hLr := Reads.of_own hLs
  have HL := hide (show letters al 6 = letters (s.al.toNat ||| u.al.toNat) 6 by rw [hal.out])
  generalize letters al 6 = Ls at *
  have h0P := World.ownsRow_lit (base := w8.heap.size) (e := 3) (size := 1) w8 #[.int .i64 0] 1 (Nat.le_refl _) (by decide) rfl
  have hxP := (Ext.refl w8).alloc (.cells #[.int .i64 0] 3)
  go_upto_region 7 with fail
  obtain ⟨PG, hPG⟩ : ∃ PG, Hid (PG = w8.heap.size) := ⟨_, hide rfl⟩
  rw [← hPG.out] at h0P ⊢
  generalize w8.alloc (.cells #[.int .i64 0] 3) = w9 at *
  have hMade := MapI.made w9
  have hxM := hxP.alloc (.map #[] 0)
  have h1P := own_less (own_ext h0P ((Ext.refl w9).alloc (.map #[] 0))) (Nat.le_of_eq hPG.out.symm)
  have hMB : w8.heap.size ≤ w9.heap.size := hxP.size
  obtain ⟨MB, hMBe⟩ : ∃ MB, Hid (MB = w9.heap.size) := ⟨_, hide rfl⟩
  rw [← hMBe.out] at hMade hMB
  go_upto_region 8 with (refine wpList_mapSet _ rfl _ _ _ (.inr rfl) (b := MB) (by rw [hMBe.out]; rfl) hMade (by omega) 0 0 rfl rfl (by omega) (by omega) ?_; intro w10 hM10 hg10)
  rw [← hMBe.out]
  obtain ⟨N, hN⟩ : ∃ N, Hid (s.st.toNat * u.st.toNat = N) := ⟨_, hide rfl⟩
  have hNs : 0 < N := by rw [← hN.out]; exact Nat.mul_pos (by have := hss.out.1; omega) (by have := hsu.out.1; omega)
  have hN256 : N ≤ 16 * 16 := by rw [← hN.out]; exact Nat.mul_le_mul (by have := hss.out.2.1; omega) (by have := hsu.out.2.1; omega)
  have hSt : StP w8 w10 MB (.slice (some ⟨PG, 0, none⟩) 1 1) [0] := by
    refine ⟨own_frm h1P (Frm.of_grown hg10) (fun b hb hS => ?_), ⟨_, hM10, fun x _ => ?_⟩, (hxP.alloc _).grown hg10 (fun k hk => by injection hk with hk; omega)⟩
    · exact hMade.farOwn h1P (by rw [hb]; exact hS.symm)
    · unfold updI
      by_cases e : x = 0 <;> simp [e]
  have hIn : InvP N [0] := ⟨rfl, by simp, fun m hm => by rw [List.mem_singleton.1 hm]; exact hNs, by decide⟩
  clear hg10 hM10 h1P hMade hxM h0P
  have hnl := hide (fun (m l n : Nat) (h : n ∈ nxt s u m l) => (show n < N by rw [← hN.out]; exact nxt_lt hss.out hsu.out h))
  have hnn := hide (fun (m l : Nat) => nxt_len hss.out hsu.out m l)
  have hsm := hide (show ∀ x ∈ [s, u], Sml x from fun x hx => by simp at hx; rcases hx with rfl | rfl; exact hss.out; exact hsu.out)
  have hCN := hide (fun W (hW : Ext w8 W) m l (hm : m ≤ 4611686018427387904) (hl : l < 6) => next_nil (c := 2) (d := dM) (PtAt.two (HS.out W (hw2.trans hW)) (HU.out W (hw2.trans hW)) (bL6.ext hW) (hMr.ext hW) (hmv.ext hW)) hsm.out (by omega) hm hl (HT.out W (hw2.trans hW)))
  have HLr := hide (fun W (hW : Ext w8 W) => hLr.ext hW)
  have HbP := hide (fun W (hW : Ext w8 W) => bP.ext hW)
  go_wp2_with fail
  go_loopw [9, 11] (fun pv iv wr => ∃ (P : List Nat) (i : Nat), i ≤ P.length ∧ iv = .int .i64 (i : Nat) ∧ Hid (InvP N P) ∧ Hid (CLd s u Ls P i) ∧ StP w8 wr MB pv P) (fun _ iv _ => 17 - (intOf iv).toNat)
  case atStart => exact ⟨[0], 0, by simp, rfl, hide hIn, hide (fun a ha => absurd ha (by omega)), hSt⟩
  case round =>
    clear hSt hIn
    obtain ⟨P, i, hi, rfl, hIn, hCl, hSt⟩ := hrel
    obtain ⟨hPo, hPm, hPx⟩ := hSt
    have hPl := hIn.out.len
    obtain ⟨AP, cP, rfl⟩ := own_form hPo
    by_cases hip : i < P.length
    · obtain ⟨mP, hmP⟩ : ∃ m, Hid (P[i]? = some m) := ⟨_, hide (List.getElem?_eq_getElem hip)⟩
      have hSt : StP w8 wr MB (.slice AP P.length cP) P := ⟨hPo, hPm, hPx⟩
      clear hPo hPm hPx
      go_upto_region 11 with fail
      go_wp2_with fail
      go_loopw [9, 59] (fun pv bv wr => ∃ (P : List Nat) (b : Nat), b ≤ Ls.length ∧ bv = .int .i64 (b : Nat) ∧ i < P.length ∧ Hid (P[i]? = some mP) ∧ Hid (InvP N P) ∧ Hid (CLd s u Ls P i) ∧ Hid (∀ l ∈ Ls.take b, ∀ n ∈ nxt s u mP l, n ∈ P) ∧ StP w8 wr MB pv P) (fun _ bv _ => Ls.length - (intOf bv).toNat)
      case atStart => exact ⟨P, 0, Nat.zero_le _, rfl, hip, hmP, hIn, hCl, hide (fun l hl => by simp at hl), hSt⟩
      case round =>
        clear hSt hCl hIn hi hPl hmP
        obtain ⟨P, b, hbl, rfl, hip, hmP, hIn, hCl, hB, hSt⟩ := hrel
        obtain ⟨hPo, hPm, hPx⟩ := hSt
        have hPl := hIn.out.len
        obtain ⟨AP, cP, rfl⟩ := own_form hPo
        by_cases hbt : b < Ls.length
        · obtain ⟨adL, uv, rfl, _, _, huv, huc⟩ := (HLr.out _ hPx).one (k := b) hbt
          obtain ⟨l, hl1, rfl⟩ : ∃ l, Hid (Ls[b]? = some l) ∧ uv = .int .i64 (l : Nat) := by
            have := huv.out
            simp only [nats, List.getElem?_map, Option.map_eq_some_iff] at this
            obtain ⟨x, h1, h2⟩ := this
            exact ⟨x, hide h1, h2.symm⟩
          have hl6 := hLm.out l (List.mem_of_getElem? hl1.out)
          obtain ⟨adP, pv, rfl, _, _, hpv, hpc⟩ := (Reads.of_own hPo).one (k := i) hip
          obtain rfl : pv = .int .i64 (mP : Nat) := by
            have := hpv.out
            simp only [nats, List.getElem?_map, hmP.out, Option.map_some, Option.some.injEq] at this
            exact this.symm
          have hmN := hIn.out.lt mP (List.mem_of_getElem? hmP.out)
          go_upto_region 14 with fail
          clear huc
          have cPB : ∀ W, Ext wr W → ∀ q, W.cell? ⟨PB, q, none⟩ = #[Value.slice (some ⟨L, 0, none⟩) 2 2, .slice M 2 dM][q]? := fun W hW => (HbP.out W (hPx.trans hW)).cell
          have cPm : ∀ W, Ext wr W → W.cell? (adP.add i) = some (.int .i64 (mP : Nat)) := fun W hW => hW.cell_some hpc
          have hiP : (i : Int) < (P.length : Int) := by omega
          have hww := Ext.refl wr
          have HPo := hide hPo
          clear hpc hPo
          refine wp_region_tailU (fun X => Ext wr X) [] (OrdU.of [0, 1, 2, 3, 4, 5, 8, 6, 7]) (by kernel_rfl) (by kernel_rfl) (by kernel_rfl) (by kernel_rfl) (by kernel_rfl) (fun _ _ _ _ _ h => h) (by first | assumption | exact (Ext.refl _).drew | (refine Ext.drew ?_; assumption)) ?_
          repeat (first | (refine useq_skip rfl rfl (by assumption) ?_; simp only [Act.put, List.setIfInBounds_toArray, List.set_cons_zero, List.set_cons_succ]) | (refine useq_pure (v := ?_) rfl rfl rfl rfl (fun X => ?_) ?_; rotate_left; (focus (go_simp <;> with_reducible rfl)); simp only [Act.put, List.setIfInBounds_toArray, List.set_cons_zero, List.set_cons_succ]) | (refine useq_read (v := ?_) rfl rfl rfl rfl (fun X hX => ?_) ?_; rotate_left; (focus (go_simp <;> with_reducible rfl)); simp only [Act.put, List.setIfInBounds_toArray, List.set_cons_zero, List.set_cons_succ]))
          (refine useq_step rfl rfl rfl (fun K hK => ?_); go_simp)
          refine (hCN.out _ (hPx.trans hww.drew) mP l (by omega) hl6).mono ?_
          rintro e w11 ⟨AR, cR, rfl, hRo, hx11⟩
          have hww11 := hww.drew.trans hx11
          have hRl := hnn.out mP l
          have hRN := hide (hnl.out mP l)
          have hRe := hide (show nxt s u mP l = (nx [s, u] mP l).1 from rfl)
          rw [← hRe.out] at hRo ⊢
          refine hK.out _ _ hww11 ?_
          (try simp only [Act.put, List.setIfInBounds_toArray, List.set_cons_zero, List.set_cons_succ])
          repeat (first | (refine useq_skip rfl rfl (by assumption) ?_; simp only [Act.put, List.setIfInBounds_toArray, List.set_cons_zero, List.set_cons_succ]) | (refine useq_pure (v := ?_) rfl rfl rfl rfl (fun X => ?_) ?_; rotate_left; (focus (go_simp <;> with_reducible rfl)); simp only [Act.put, List.setIfInBounds_toArray, List.set_cons_zero, List.set_cons_succ]) | (refine useq_read (v := ?_) rfl rfl rfl rfl (fun X hX => ?_) ?_; rotate_left; (focus (go_simp <;> with_reducible rfl)); simp only [Act.put, List.setIfInBounds_toArray, List.set_cons_zero, List.set_cons_succ]))
          refine useq_nil ?_
          have hSt : StP w8 w11 MB (.slice (some adP) P.length cP) P := (show StP w8 wr MB (.slice (some adP) P.length cP) P from ⟨HPo.out, hPm, hPx⟩).ext hww11
          have hdis : ∀ g, (Value.slice AR (nxt s u mP l).length cR).ownBlock = some g → (Value.slice (some adP) P.length cP).ownBlock ≠ some g := fun g hg hg' => by
            have h1 := (hRo.lt g hg).1
            have h2 := (HPo.out.lt g hg').2
            have h3 : wr.drew.heap.size = wr.heap.size := rfl
            omega
          have hRo' := own_less hRo (show w8.heap.size ≤ _ from hPx.size)
          clear cPB cPm hww hww11 hRo hPm hPx
          generalize nxt s u mP l = R at *
          go_wp2_with fail
          go_loopw [9, 71] (fun pv cv wr => ∃ (P : List Nat) (c : Nat), c ≤ R.length ∧ cv = .int .i64 (c : Nat) ∧ i < P.length ∧ Hid (P[i]? = some mP) ∧ Hid (InvP N P) ∧ Hid (CLd s u Ls P i) ∧ Hid (∀ l ∈ Ls.take b, ∀ n ∈ nxt s u mP l, n ∈ P) ∧ Hid (∀ n ∈ R.take c, n ∈ P) ∧ StP w8 wr MB pv P ∧ wr.ownsRow w8.heap.size 3 1 (.slice AR R.length cR) R.length (nats R) ∧ ∀ g, (Value.slice AR R.length cR).ownBlock = some g → pv.ownBlock ≠ some g) (fun _ cv _ => R.length - (intOf cv).toNat)
          case atStart => exact ⟨P, 0, Nat.zero_le _, rfl, hip, hmP, hIn, hCl, hB, hide (fun n hn => by simp at hn), hSt, hRo', hdis⟩
          case round =>
            clear hSt hRo' hdis hB hCl hIn hmP hip hPl hiP hpv
            obtain ⟨P, c', hc, rfl, hip, hmP, hIn, hCl, hB, hC, hSt, hRo, hdis⟩ := hrel
            obtain ⟨hPo, ⟨Mf, hPm, hMf⟩, hPx⟩ := hSt
            have hPl := hIn.out.len
            obtain ⟨AP, cP, rfl⟩ := own_form hPo
            by_cases hct : c' < R.length
            · obtain ⟨adR, rv, rfl, _, _, hrv, hrc⟩ := (Reads.of_own hRo).one (k := c') hct
              obtain ⟨nn, hn1, rfl⟩ : ∃ x, Hid (R[c']? = some x) ∧ rv = .int .i64 (x : Nat) := by
                have := hrv.out
                simp only [nats, List.getElem?_map, Option.map_eq_some_iff] at this
                obtain ⟨x, h1, h2⟩ := this
                exact ⟨x, hide h1, h2.symm⟩
              have hnN := hRN.out nn (List.mem_of_getElem? hn1.out)
              have hMn := hMf nn (by omega)
              cases hok : (Mf nn).isSome
              · have hnP : nn ∉ P := fun hh => by rw [hMn.2 hh] at hok; cases hok
                by_cases h16 : P.length = 16
                · have he16 : ((P.length : Int) == 16) = true := by rw [h16]; rfl
                  have hbz := bz.ext hPx
                  have cZ := hbz.cell
                  have fZ := hbz.frozen
                  have hfl := fillC_frm wr (w.heap.size + 1 + 1) (.int .i64 0) (.int .i64 0) (.slice none 0 0)
                  have hbf := fillC_blk hbz rfl (.int .i64 0) (.int .i64 0) (.slice none 0 0)
                  have hxf := (hw2.trans hPx).frm hfl (fun k hk e => by omega)
                  clear h16
                  go_wp2_with (refine wpList_mapOk _ rfl _ _ rfl rfl hPm nn rfl (by omega) ?_; intro cc; rw [hok])
                  generalize ((wr.setCell ⟨w.heap.size + 1 + 1, 0, none⟩ (.int .i64 0)).setCell ⟨w.heap.size + 1 + 1, 1, none⟩ (.int .i64 0)).setCell ⟨w.heap.size + 1 + 1, 2, none⟩ (.slice none 0 0) = wf at *
                  have cf := hbf.cell
                  exact bodyPost_ret (v := .tuple #[.agg #[.int .i64 0, .int .i64 0, .slice none 0 0], .bool false]) (by simp [results, Tryd.results14, go_sem, cf]) rfl (Or.inl ⟨rfl, hxf⟩)
                · have he16 : ((P.length : Int) == 16) = false := by simp; omega
                  go_wp2_with (first
                    | (refine wpList_mapOk _ rfl _ _ rfl rfl hPm nn rfl (by omega) ?_; intro cc; rw [hok])
                    | (refine wpList_mapSet _ rfl _ _ _ (.inl rfl) rfl hPm (by omega) nn 0 rfl rfl (by omega) (by omega) ?_; intro w12 hM12 hg12; have hx12 := hPx.grown hg12 (fun k hk => (show w8.heap.size ≤ k by injection hk with hk; omega)); have hf12 := Frm.of_grown hg12; have ho12 := own_frm hPo hf12 (fun b hb hS => hPm.farOwn hPo (by rw [hb]; exact hS.symm)))
                    | (at_builtin; refine wpList_push w8 w12 rfl _ _ _ rfl 3 _ 1 8 Tryd.underlying48 info_int rfl (by decide) (.slice AP P.length cP) _ _ _ _ rfl rfl hx12 ho12 rfl (cells_int _) (by unfold maxLen; omega) (by omega) ?_; intro v13 w13 hx13 ho13 hg13 hat13))
                  go_roundw
                  case rel =>
                    have hf13 := Frm.of_grown hg13
                    have hm13 := hM12.frm hf13 (fun e => hM12.farOwn ho12 e)
                    refine ⟨P ++ [nn], c' + 1, by omega, by go_num, by rw [List.length_append]; omega, hide (by rw [List.getElem?_append_left hip]; exact hmP.out), hide (hIn.out.push hnP hnN h16), hide (hCl.out.push (Nat.le_of_lt hip)),
                      hide (fun l hl n hn => List.mem_append_left _ (hB.out l hl n hn)), hide (fun x hx => ?_), ⟨by simpa [nats] using ho13, ⟨_, by rw [List.length_append]; exact hm13, fun x hx => ?_⟩, hx13⟩, ?_, fun g hg => ?_⟩
                    · rw [List.take_add_one, hn1.out] at hx
                      rcases List.mem_append.1 hx with h1 | h1
                      · exact List.mem_append_left _ (hC.out x h1)
                      · simp at h1; rw [h1]; simp
                    · unfold updI
                      by_cases e : x = nn
                      · simp [e]
                      · rw [if_neg e, hMf x hx]; simp [e]
                    · exact own_frm (own_frm hRo hf12 (fun b hb hS => hPm.farOwn hRo (by rw [hb]; exact hS.symm))) hf13 (fun b hb hS => hdis b hb hS)
                    · rcases hat13 with h1 | h1
                      · rw [h1]; exact hdis g hg
                      · rw [h1]
                        intro e
                        injection e with e
                        have h2 := (hRo.lt g hg).2
                        have h3 := hg12.size
                        omega
                  case measure => simp [intOf]; omega
              · have hnP := hMn.1 hok
                go_wp2_with (refine wpList_mapOk _ rfl _ _ rfl rfl hPm nn rfl (by omega) ?_; intro cc; rw [hok])
                go_roundw
                case rel => exact ⟨P, c' + 1, by omega, by go_num, hip, hmP, hIn, hCl, hB, hide (fun x hx => by
                  rw [List.take_add_one, hn1.out] at hx
                  rcases List.mem_append.1 hx with h1 | h1
                  · exact hC.out x h1
                  · simp at h1; rw [h1]; exact hnP), ⟨hPo, ⟨Mf, hPm, hMf⟩, hPx⟩, hRo, hdis⟩
                case measure => simp [intOf]; omega
            · obtain rfl : c' = R.length := by omega
              have hSt : StP w8 wr MB (.slice AP P.length cP) P := ⟨hPo, ⟨Mf, hPm, hMf⟩, hPx⟩
              clear hPo hPm hMf hPx hRo hdis
              go_wp2_with fail
              go_roundw
              case rel => exact ⟨P, b + 1, by omega, by go_num, hip, hmP, hIn, hCl, hide (fun x hx n hn => by
                rw [List.take_add_one, hl1.out] at hx
                rcases List.mem_append.1 hx with h1 | h1
                · exact hB.out x h1 n hn
                · simp at h1
                  subst h1
                  exact hC.out n (by rw [List.take_length, hRe.out]; exact hn)), hSt⟩
              case measure => simp [intOf]; omega
        · obtain rfl : b = Ls.length := by omega
          have hSt : StP w8 wr MB (.slice AP P.length cP) P := ⟨hPo, hPm, hPx⟩
          clear hPo hPm hPx
          go_wp2_with fail
          go_roundw
          case rel => exact ⟨P, i + 1, hip, by go_num, hIn, hide (fun a ha m hm l hl n hn => by
            rcases Nat.lt_or_ge a i with h1 | h1
            · exact hCl.out a h1 m hm l hl n hn
            · obtain rfl : a = i := by omega
              rw [hmP.out] at hm
              obtain rfl := Option.some.inj hm
              exact hB.out l (by rw [List.take_length]; exact hl) n hn), hSt⟩
          case measure => simp [intOf]; omega
    · obtain rfl : i = P.length := by omega
      obtain ⟨gP, rfl⟩ : ∃ gP, AP = some ⟨gP, 0, none⟩ := by
        rcases hPo.2 with ⟨_, h0⟩ | ⟨g, cap, cur, hv, _⟩
        · have := (List.getElem?_eq_some_iff.1 hIn.out.zero).1; omega
        · exact ⟨g, by injection hv⟩
      obtain ⟨Mf0, hPm, _⟩ := hPm
      have hGw8 : G < w8.heap.size := bG.lt
      have hgP := (hPo.lt gP rfl).1
      have hCl' := hide (show ∀ m ∈ P, ∀ l ∈ Ls, ∀ n ∈ nxt s u m l, n ∈ P from fun m hm => by
        obtain ⟨a, ha⟩ := List.getElem?_of_mem hm
        exact hCl.out a (List.getElem?_eq_some_iff.1 ha).1 m ha)
      have hsrt := hide (sort_int hPo (by omega))
      clear hi hCl
      go_upto_region 26 with (go_at_call 37; refine hsrt.out.mono ?_; rintro e w14 ⟨rfl, P', hP', hPo14, hf14⟩; have hPm14 := hPm.frm hf14 (fun e => hPm.farOwn hPo (by rw [e]; rfl)); have hPx14 := hPx.frm hf14 (fun k hk e => by omega))
      have hlP : P'.length = P.length := hP'.out.1.length_eq
      have hIn' : Hid (InvP N P') := hide (by
        refine ⟨?_, hP'.out.1.symm.nodup_iff.1 hIn.out.nodup, fun m hm => hIn.out.lt m (hP'.out.1.mem_iff.1 hm), by rw [hlP]; exact hPl⟩
        have h0 := hP'.out.1.mem_iff.2 (List.mem_of_getElem? hIn.out.zero)
        have hl0 : 0 < P'.length := List.length_pos_of_mem h0
        obtain ⟨j, hj⟩ := List.getElem?_of_mem h0
        obtain ⟨hj1, hj2⟩ := List.getElem?_eq_some_iff.1 hj
        rw [List.getElem?_eq_getElem hl0]
        congr 1
        rcases Nat.eq_zero_or_pos j with hz | hz
        · subst hz; exact hj2
        · have := List.pairwise_iff_getElem.1 hP'.out.2 0 j hl0 hj1 hz
          omega)
      have hCl3 : Hid (∀ m ∈ P', ∀ l ∈ Ls, ∀ n ∈ nxt s u m l, n ∈ P') := hide (fun m hm l hl n hn => hP'.out.1.mem_iff.2 (hCl'.out m (hP'.out.1.mem_iff.1 hm) l hl n hn))
      rw [← hlP] at hPm14 hPo14 ⊢
      clear hPo hPx hIn hCl' hP' hf14 hPm hsrt
      have hPl' : P'.length ≤ 16 := hIn'.out.len
      clear hip hPl hlP
      go_wp2_with fail
      go_loopw [99] (fun kv wr => ∃ (k : Nat) (Mf : Nat → Option Nat), k ≤ P'.length ∧ kv = .int .i64 (k : Nat) ∧ MapI wr MB (P'.length + k) Mf ∧ Hid (∀ j m, j < k → P'[j]? = some m → Mf m = some j) ∧ wr.ownsRow w8.heap.size 3 1 (.slice (some ⟨gP, 0, none⟩) P'.length cP) P'.length (nats P') ∧ Ext w8 wr) (fun kv _ => P'.length - (intOf kv).toNat)
      case atStart => exact ⟨0, Mf0, Nat.zero_le _, rfl, hPm14, hide (fun j m hj => absurd hj (by omega)), hPo14, hPx14⟩
      case round =>
        clear hPm14 hPo14 hPx14
        obtain ⟨k, Mf, hk, rfl, hM, hMk, hPo, hPx⟩ := hrel
        by_cases hkt : k < P'.length
        · obtain ⟨mP, hmP⟩ : ∃ m, Hid (P'[k]? = some m) := ⟨_, hide (List.getElem?_eq_getElem hkt)⟩
          have hmN := hIn'.out.lt mP (List.mem_of_getElem? hmP.out)
          have hpc : wr.cell? ⟨gP, k, none⟩ = some (.int .i64 (mP : Nat)) := by
            rw [hPo.cellAt k (by omega)]
            simp [nats, hmP.out]
          go_wp2_with (refine wpList_mapSet _ rfl _ _ _ (.inl rfl) rfl hM (by omega) mP k rfl rfl (by omega) (by omega) ?_; intro w16 hM16 hg16)
          go_roundw
          case rel =>
            refine ⟨k + 1, _, by omega, by go_num, hM16, hide (fun j x hj hx => ?_), own_frm hPo (Frm.of_grown hg16) (fun b hb hS => hM.farOwn hPo (by rw [hb]; exact hS.symm)), hPx.grown hg16 (fun q hq => by injection hq with hq; omega)⟩
            unfold updI
            by_cases e : x = mP
            · subst e
              rw [if_pos rfl]
              have hj1 := List.getElem?_eq_some_iff.1 hx
              have hk1 := List.getElem?_eq_some_iff.1 hmP.out
              rcases Nat.lt_trichotomy j k with h1 | h1 | h1
              · exact absurd (hj1.2.trans hk1.2.symm) (List.pairwise_iff_getElem.1 hIn'.out.nodup j k hj1.1 hk1.1 h1)
              · rw [h1]
              · omega
            · rw [if_neg e]
              rcases Nat.lt_or_ge j k with h1 | h1
              · exact hMk.out j x h1 hx
              · obtain rfl : j = k := by omega
                rw [hmP.out] at hx
                exact absurd (Option.some.inj hx).symm e
          case measure => simp [intOf]; omega
        · obtain rfl : k = P'.length := by omega
          have hMi := hide (show ∀ n ∈ P', Mf n = some (P'.idxOf n) from fun n hn => hMk.out _ n (List.idxOf_lt_length_of_mem hn) (idx_get hn))
          have hbG := bG.ext hPx
          have kG := hbG.cell
          have fG := hbG.frozen
          have h15 : Frm (fun q => q = G) w8 (wr.setCell ⟨G, 1, none⟩ (.int .i64 (P'.length : Nat))) := (hPx.toFrm).trans (Frm.setCell wr G 1 _)
          have bG15 : Blk (wr.setCell ⟨G, 1, none⟩ (.int .i64 (P'.length : Nat))) G 25 #[.int .i64 (al : Nat), .int .i64 (P'.length : Nat), .slice none 0 0] := by simpa using hbG.set_ 1 (.int .i64 (P'.length : Nat))
          have hPo15 := own_frm hPo (Frm.setCell wr G 1 (.int .i64 (P'.length : Nat))) (fun b hb e => by have := (hPo.lt b hb).1; omega)
          have hM15 := hM.frm (Frm.setCell wr G 1 (.int .i64 (P'.length : Nat))) (fun e => hM.far hbG e.symm)
          have hGMB : ¬ (MB = G) := fun e => hM15.far bG15 e.symm
          have hGlt15 : G < (wr.setCell ⟨G, 1, none⟩ (.int .i64 (P'.length : Nat))).heap.size := bG15.lt
          clear hM hMk hPo hbG
          go_upto_region 32 with fail
          clear kG fG hPx
          generalize wr.setCell ⟨G, 1, none⟩ (.int .i64 (P'.length : Nat)) = w15 at *
          have hLW := hide (fun W (hW : Frm (fun q => q = G) w8 W) => hw2.frm hW (fun k hk e => by omega))
          have hCN3 := hide (fun W (hW : Frm (fun q => q = G) w8 W) m l (hm : m ≤ 4611686018427387904) (hl : l < 6) => next_nil (c := 2) (d := dM)
            (PtAt.two (HS.out W (hLW.out W hW)) (HU.out W (hLW.out W hW)) (bL6.frm hW (fun e => by have := hL.out; omega)) (hMr.frm hW (fun k h1 h2 e => by omega)) (hmv.frm hW (fun b cs hc e => by
              subst e
              have := bG
              unfold Blk at hc this
              rw [hc] at this
              injection this with this
              injection this with _ ht
              exact absurd ht (by decide)))) hsm.out (by omega) hm hl (HT.out W (hLW.out W hW)))
          have hBP3 := hide (fun W (hW : Frm (fun q => q = G) w8 W) => bP.frm hW (fun e => by
              have := bP
              rw [e] at this
              have h2 := bG
              unfold Blk at this h2
              rw [this] at h2
              injection h2 with h2
              injection h2 with _ ht
              exact absurd ht (by decide)))
          have hLr3 := hide (fun W (hW : Frm (fun q => q = G) w8 W) => hLr.frm hW (fun k h1 h2 e => by omega))
          have hgr : Gr2 w15 w15 G (al : Nat) (P'.length : Nat) (.slice none 0 0) [] := ⟨bG15, World.ownsRow_nil _ _ _ _, Frm.refl _ _, hGlt15⟩
          have hPget := hide (fun k m (h : P'[k]? = some m) => (show P'.getD k 0 = m by rw [List.getD_eq_getElem?_getD, h]; rfl))
          clear hCN HbP HLr bG15
          go_wp2_with fail
          go_loopw [113] (fun kv wr => ∃ (k : Nat) (ev : Value) (es : List Edg), k ≤ P'.length ∧ kv = .int .i64 (k : Nat) ∧ Gr2 w15 wr G (al : Nat) (P'.length : Nat) ev es ∧ Hid (es = eP s u P' Ls k) ∧ es.length ≤ k * 1536 ∧ Hid (es = [] → ev = .slice none 0 0)) (fun kv _ => P'.length - (intOf kv).toNat)
          case atStart => exact ⟨0, _, [], Nat.zero_le _, rfl, hgr, hide rfl, by simp, hide (fun _ => rfl)⟩
          case round =>
            clear hgr
            obtain ⟨k, ev, es, hk, rfl, hgr, hes, hel, hen⟩ := hrel
            by_cases hkt : k < P'.length
            · obtain ⟨mP, hmP⟩ : ∃ m, Hid (P'[k]? = some m) := ⟨_, hide (List.getElem?_eq_getElem hkt)⟩
              have hmN := hIn'.out.lt mP (List.mem_of_getElem? hmP.out)
              have hePk := hide (show eP s u P' Ls (k + 1) = eP s u P' Ls k ++ eL s u P' Ls k mP by
                simp only [eP, List.range_succ, List.flatMap_append, List.flatMap_cons, List.flatMap_nil, List.append_nil, hPget.out k mP hmP.out])
              have hpc : wr.cell? ⟨gP, k, none⟩ = some (.int .i64 (mP : Nat)) := by
                have ho := own_frm hPo15 hgr.fr (fun b hb e => by have := (hPo15.lt b hb).1; omega)
                rw [ho.cellAt k (by omega)]
                simp [nats, hmP.out]
              go_upto_region 35 with fail
              clear hpc
              go_wp2_with fail
              go_loopw [120] (fun bv wr => ∃ (b : Nat) (ev : Value) (es : List Edg), b ≤ Ls.length ∧ bv = .int .i64 (b : Nat) ∧ Gr2 w15 wr G (al : Nat) (P'.length : Nat) ev es ∧ Hid (es = eP s u P' Ls k ++ eL s u P' (Ls.take b) k mP) ∧ es.length ≤ k * 1536 + b * 256 ∧ Hid (es = [] → ev = .slice none 0 0)) (fun bv _ => Ls.length - (intOf bv).toNat)
              case atStart => exact ⟨0, ev, es, Nat.zero_le _, rfl, hgr, hide (by rw [hes.out]; simp [eL]), by omega, hen⟩
              case round =>
                clear hgr hes hel hen
                obtain ⟨b, ev, es, hbl, rfl, hgr, hes, hel, hen⟩ := hrel
                by_cases hbt : b < Ls.length
                · obtain ⟨adL, uv, hAL, _, _, huv, huc⟩ := (hLr3.out _ (h15.trans hgr.fr)).one (k := b) hbt
                  obtain ⟨l, hl1, rfl⟩ : ∃ l, Hid (Ls[b]? = some l) ∧ uv = .int .i64 (l : Nat) := by
                    have := huv.out
                    simp only [nats, List.getElem?_map, Option.map_eq_some_iff] at this
                    obtain ⟨x, h1, h2⟩ := this
                    exact ⟨x, hide h1, h2.symm⟩
                  subst hAL
                  have hl6 := hLm.out l (List.mem_of_getElem? hl1.out)
                  have hcP := (hBP3.out _ (h15.trans hgr.fr)).cell
                  have hGo := hgr.own
                  obtain ⟨AE, cE, rfl⟩ := own_form hGo
                  go_upto_region 38 with fail
                  clear huc
                  go_wp2_with fail
                  refine (hCN3.out _ (h15.trans hgr.fr) mP l (by omega) hl6).mono ?_
                  rintro e w17 ⟨AR, cR, rfl, hRo, hx17⟩
                  have hRl := hnn.out mP l
                  have hRP := hide (fun n hn => hCl3.out mP (List.mem_of_getElem? hmP.out) l (List.mem_of_getElem? hl1.out) n hn)
                  have hRe := hide (show nxt s u mP l = (nx [s, u] mP l).1 from rfl)
                  have hEb := hide (show eL s u P' (Ls.take (b + 1)) k mP = eL s u P' (Ls.take b) k mP ++ (nxt s u mP l).map (fun n => (⟨(k : Nat), (l : Nat), (P'.idxOf n : Nat)⟩ : Edg)) by
                    simp only [eL, List.take_add_one, hl1.out, Option.toList, List.flatMap_append, List.flatMap_cons, List.flatMap_nil, List.append_nil]
                    rfl)
                  have hgr17 := hgr.ext_ hx17
                  have hRo' := own_less hRo (show w15.heap.size ≤ _ from hgr.fr.size)
                  rw [← hRe.out] at hRo' ⊢
                  clear hRo hgr hGo hcP hx17
                  have hes0 := hes
                  generalize eP s u P' Ls k ++ eL s u P' (Ls.take b) k mP = es0 at hes
                  have hes' := hes.out
                  subst hes'
                  generalize nxt s u mP l = R at *
                  go_wp2_with fail
                  go_loopw [129] (fun cv wr => ∃ (c : Nat) (ev : Value) (es' : List Edg), c ≤ R.length ∧ cv = .int .i64 (c : Nat) ∧ Gr2 w15 wr G (al : Nat) (P'.length : Nat) ev es' ∧ Hid (es' = es ++ (R.take c).map (fun n => (⟨(k : Nat), (l : Nat), (P'.idxOf n : Nat)⟩ : Edg))) ∧ es'.length ≤ k * 1536 + b * 256 + c ∧ Hid (es' = [] → ev = .slice none 0 0) ∧ wr.ownsRow w15.heap.size 3 1 (.slice AR R.length cR) R.length (nats R)) (fun cv _ => R.length - (intOf cv).toNat)
                  case atStart => exact ⟨0, _, es, Nat.zero_le _, rfl, hgr17, hide (by simp), by omega, hen, hRo'⟩
                  case round =>
                    clear hgr17 hRo' hen
                    obtain ⟨c', ev, es', hc, rfl, hgr, hes', hel', hen, hRo⟩ := hrel
                    by_cases hct : c' < R.length
                    · obtain ⟨adR, rv, rfl, _, _, hrv, hrc⟩ := (Reads.of_own hRo).one (k := c') hct
                      obtain ⟨nn, hn1, rfl⟩ : ∃ x, Hid (R[c']? = some x) ∧ rv = .int .i64 (x : Nat) := by
                        have := hrv.out
                        simp only [nats, List.getElem?_map, Option.map_eq_some_iff] at this
                        obtain ⟨x, h1, h2⟩ := this
                        exact ⟨x, hide h1, h2.symm⟩
                      have hnP := hRP.out nn (List.mem_of_getElem? hn1.out)
                      have hnN := hIn'.out.lt nn hnP
                      have hMn := hMi.out nn hnP
                      have hMw := hM15.frm hgr.fr hGMB
                      have hix := List.idxOf_lt_length_of_mem hnP
                      obtain ⟨ix, hixe⟩ : ∃ ix, Hid (P'.idxOf nn = ix) := ⟨_, hide rfl⟩
                      rw [hixe.out] at hMn hix
                      have htk := hide (show (R.take (c' + 1)).map (fun n => (⟨(k : Nat), (l : Nat), (P'.idxOf n : Nat)⟩ : Edg)) = (R.take c').map (fun n => (⟨(k : Nat), (l : Nat), (P'.idxOf n : Nat)⟩ : Edg)) ++ [⟨(k : Nat), (l : Nat), (ix : Nat)⟩] by
                        rw [List.take_add_one, hn1.out, List.map_append, ← hixe.out]
                        rfl)
                      have kG := hgr.blk.cell
                      have hEown := hgr.own
                      go_wp2_with (first
                        | (refine wpList_mapAt _ rfl _ _ rfl rfl hMw nn ix rfl (by omega) hMn ?_)
                        | (at_builtin; refine wpList_push3 w15 wr rfl _ _ _ rfl 65 _ 3 24 Tryd.underlying23 info_edge rfl (by decide) ev es'.length (edgeCells es') _ _ rfl rfl hgr.fr.size hgr.own rfl (by simp [Value.oneCell']) (by unfold maxLen; omega) (by omega) ?_; intro g5 cap5 w18 hown5 hg5 hat5 hlt5; obtain ⟨q1, q2, q3⟩ := hgr.push (e := ⟨(k : Nat), (l : Nat), (ix : Nat)⟩) hown5 hg5; have q1' := q1.out; clear kG))
                      go_roundw
                      case rel =>
                        refine ⟨c' + 1, _, _, by omega, by go_num, q3, hide (by rw [htk.out, ← List.append_assoc, ← hes'.out]), by rw [List.length_append]; simp; omega, hide (fun h => by simp at h), ?_⟩
                        exact own_frm (own_frm hRo (Frm.of_grown hg5) (fun b hb hS => own_ne hRo hEown (by decide) hb hS)) (Frm.setCell w18 G 2 _) (fun b hb e => by have := (hRo.lt b hb).1; omega)
                      case measure => simp [intOf]; omega
                    · obtain rfl : c' = R.length := by omega
                      clear hRo
                      go_wp2_with fail
                      go_roundw
                      case rel => exact ⟨b + 1, ev, es', by omega, by go_num, hgr, hide (by rw [hEb.out, ← List.append_assoc, ← hes0.out, hes'.out, List.take_length]), by omega, hen⟩
                      case measure => simp [intOf]; omega
                · obtain rfl : b = Ls.length := by omega
                  go_wp2_with fail
                  go_roundw
                  case rel => exact ⟨k + 1, ev, es, by omega, by go_num, hgr, hide (by rw [hePk.out, hes.out, List.take_length]), by omega, hen⟩
                  case measure => simp [intOf]; omega
            · obtain rfl : k = P'.length := by omega
              have hFw := h15.trans hgr.fr
              have hxw := hLW.out _ hFw
              have hbz := bz.frm hFw (fun e => by omega)
              have hspec := hide (fun (fs : List Edg) (h1 : Srt fs) (h2 : fs.Perm es) => (show CompOf s u u.st.toNat ⟨(al : Nat), (P'.length : Nat), fs⟩ by
                have := comp_spec (P := P') (es := fs) hss.out hsu.out HL.out hIn'.out.zero hPl' hIn'.out.nodup (fun m hm => by rw [hN.out]; exact hIn'.out.lt m hm) hCl3.out h1 (by rw [← hes.out]; exact h2)
                rw [hal.out] at this
                exact this))
              clear hes hCl3 hIn' hCN3 hBP3 hLr3
              by_cases hemp : es = []
              · have hev := hen.out hemp
                subst hev
                subst hemp
                have kG := hgr.blk.cell
                have cZ := hbz.cell
                have fZ := hbz.frozen
                have hfl := fillC_frm wr (w.heap.size + 1 + 1) (.int .i64 (al : Nat)) (.int .i64 (P'.length : Nat)) (.slice none 0 0)
                have hbf := fillC_blk hbz rfl (.int .i64 (al : Nat)) (.int .i64 (P'.length : Nat)) (.slice none 0 0)
                have hxf := hxw.frm hfl (fun k hk e => by omega)
                have hfin := hide (show RetComp w s u (.returned (.tuple #[.agg #[.int .i64 (al : Nat), .int .i64 (P'.length : Nat), .slice none 0 0], .bool true])) (((wr.setCell ⟨w.heap.size + 1 + 1, 0, none⟩ (.int .i64 (al : Nat))).setCell ⟨w.heap.size + 1 + 1, 1, none⟩ (.int .i64 (P'.length : Nat))).setCell ⟨w.heap.size + 1 + 1, 2, none⟩ (.slice none 0 0)) from
                  Or.inr ⟨⟨(al : Nat), (P'.length : Nat), []⟩, none, 0, 0, rfl, hide (hspec.out [] (fun i j x y hx => by simp at hx) (List.Perm.refl _)), ⟨rfl, Reads.nil⟩, hxf⟩)
                go_wp2_with (go_at_call 38; refine (sort_none _).mono ?_; rintro e w' ⟨rfl, rfl⟩)
                generalize ((wr.setCell ⟨w.heap.size + 1 + 1, 0, none⟩ (.int .i64 (al : Nat))).setCell ⟨w.heap.size + 1 + 1, 1, none⟩ (.int .i64 (P'.length : Nat))).setCell ⟨w.heap.size + 1 + 1, 2, none⟩ (.slice none 0 0) = wf at *
                have cf := hbf.cell
                exact bodyPost_ret (v := .tuple #[.agg #[.int .i64 (al : Nat), .int .i64 (P'.length : Nat), .slice none 0 0], .bool true]) (by simp [results, Tryd.results14, go_sem, cf]) rfl hfin.out
              · have hEo := hgr.own
                obtain ⟨gE, cE, rfl⟩ : ∃ gE cE, ev = .slice (some ⟨gE, 0, none⟩) es.length cE := by
                  rcases hEo.2 with ⟨_, h0⟩ | ⟨g, cap, cur, hv, _⟩
                  · exact absurd (List.eq_nil_of_length_eq_zero h0) hemp
                  · exact ⟨g, cap, hv⟩
                have hgE := hEo.lt gE rfl
                have hsort := hide (sort_any hEo (by omega))
                have kG := hgr.blk.cell
                go_upto_region 46 with (go_at_call 38; refine hsort.out.mono ?_; rintro e w19 ⟨rfl, fs, hfs, hEo19, hf19⟩)
                have hGE : ¬ (G = gE) := by omega
                have hbz19 := hbz.frm hf19 (by omega)
                have hbG19 := hgr.blk.frm hf19 hGE
                have hx19 := hxw.frm hf19 (fun k hk e => by omega)
                clear kG
                have kG := hbG19.cell
                have cZ := hbz19.cell
                have fZ := hbz19.frozen
                have hlf := hfs.out.1
                have hfl := fillC_frm w19 (w.heap.size + 1 + 1) (.int .i64 (al : Nat)) (.int .i64 (P'.length : Nat)) (.slice (some ⟨gE, 0, none⟩) es.length cE)
                have hbf := fillC_blk hbz19 rfl (.int .i64 (al : Nat)) (.int .i64 (P'.length : Nat)) (.slice (some ⟨gE, 0, none⟩) es.length cE)
                have hxf := hx19.frm hfl (fun k hk e => by omega)
                have hfin := hide (show RetComp w s u (.returned (.tuple #[.agg #[.int .i64 (al : Nat), .int .i64 (P'.length : Nat), .slice (some ⟨gE, 0, none⟩) es.length cE], .bool true])) (((w19.setCell ⟨w.heap.size + 1 + 1, 0, none⟩ (.int .i64 (al : Nat))).setCell ⟨w.heap.size + 1 + 1, 1, none⟩ (.int .i64 (P'.length : Nat))).setCell ⟨w.heap.size + 1 + 1, 2, none⟩ (.slice (some ⟨gE, 0, none⟩) es.length cE)) from
                  Or.inr ⟨⟨(al : Nat), (P'.length : Nat), fs⟩, _, _, _, rfl, hide (hspec.out fs hfs.out.2.1 hfs.out.2.2.2), ⟨hlf.symm, (Reads.of_own (own_keep hEo19 hfl (fun b h1 e => by omega))).more (by omega) (Nat.le_refl _)⟩, hxf⟩)
                clear hlf
                go_wp2_with fail
                generalize ((w19.setCell ⟨w.heap.size + 1 + 1, 0, none⟩ (.int .i64 (al : Nat))).setCell ⟨w.heap.size + 1 + 1, 1, none⟩ (.int .i64 (P'.length : Nat))).setCell ⟨w.heap.size + 1 + 1, 2, none⟩ (.slice (some ⟨gE, 0, none⟩) es.length cE) = wf at *
                have cf := hbf.cell
                exact bodyPost_ret (v := .tuple #[.agg #[.int .i64 (al : Nat), .int .i64 (P'.length : Nat), .slice (some ⟨gE, 0, none⟩) es.length cE], .bool true]) (by simp [results, Tryd.results14, go_sem, cf]) rfl hfin.out
end Go.Proofs.YtcmgkekaeafgaaaDoor

namespace Go.Proofs.YtcmgkekaeafgaaaDoor
open Go Go.RowKit
set_option maxHeartbeats 4000000

set_option maxRecDepth 100000 in
theorem spec_l2Small {R M : Nat} {w : World} (h : Rd w R M) (hM : M ≤ 800000000) :
    Calls Tryd.prog 28 #[.pointer (some ⟨R, 0, none⟩)] w (RetG R (M + 30000) 20000 w) := by
  have hRl := h.lt
  have hx0 := (Ext.refl w).alloc (.cells #[.int .i64 0, .int .i64 0, .slice none 0 0] 25)
  have bz5 := Blk.new w 25 #[.int .i64 0, .int .i64 0, .slice none 0 0]
  have hr5 := h.ext hx0
  have hw5 := hx0.dr (R := R)
  have hz1 := bz5.lt
  go_enter Tryd.func28, Tryd.ntmps28
  go_wp2_with fail
  have C6 := (num_lit [3, 6, 7, 5, 2] 5 #[.int .i64 3, .int .i64 6, .int .i64 7, .int .i64 5, .int .i64 2] rfl rfl (by omega) (by omega) hr5 (by omega))
  simp only [World.size_alloc] at C6
  refine C6.mono ?_
  rintro e w6 ⟨al, hal, rfl, hr6, hd6⟩
  have hw6 := (hw5.ext ((Ext.refl _).alloc _)).trans hd6
  have bz6 := (bz5.ext ((Ext.refl _).alloc _)).dr hd6 (by omega)
  go_wp2_with fail
  refine (num_lit [2, 3, 1, 3] 4 #[.int .i64 2, .int .i64 3, .int .i64 1, .int .i64 3] rfl rfl (by omega) (by omega) hr6 (by omega)).mono ?_
  rintro e w7 ⟨st, hst, rfl, hr7, hd7⟩
  have hw7 := (hw6.ext ((Ext.refl _).alloc _)).trans hd7
  have bz7 := (bz6.ext ((Ext.refl _).alloc _)).dr hd7 (by omega)
  go_wp2_with fail
  refine (num_lit [2, 3, 4] 3 #[.int .i64 2, .int .i64 3, .int .i64 4] rfl rfl (by omega) (by omega) hr7 (by omega)).mono ?_
  rintro e w8 ⟨fw, _, rfl, hr8, hd8⟩
  have hw8 := (hw7.ext ((Ext.refl _).alloc _)).trans hd8
  have bz8 := (bz7.ext ((Ext.refl _).alloc _)).dr hd8 (by omega)
  obtain ⟨a, rfl, ha⟩ : ∃ a : Nat, al = a ∧ a < 64 := ⟨al.toNat, by simp at hal; omega, by simp at hal; omega⟩
  obtain ⟨p, rfl, hp1, hp⟩ : ∃ p : Nat, st = p ∧ 1 ≤ p ∧ p ≤ 16 := ⟨st.toNat, by simp at hst; omega, by simp at hst; omega, by simp at hst; omega⟩
  clear hal hst
  go_wp2_with fail
  refine (spec_l2Random hr8 (by omega) ha hp1 hp).mono ?_
  rintro e w9 ⟨s9, A9, n9, c9, rfl, hs9, hg9, hn9, hr9, hd9⟩
  have bz9 := bz8.dr hd9 (by omega)
  have hfin9 := hide (ret_fill (R := R) (M := M + 30000) (L := 20000) (c := c9) hs9 hg9 hn9 (hr9.more (by omega)) (hw8.trans hd9) bz9 hRl (Nat.le_refl _))
  have cz9 := bz9.cell
  have fz9 := bz9.frozen
  go_wp2_with fail
  exact bodyPost_ret (v := .agg #[.int .i64 s9.al, .int .i64 s9.st, .slice A9 n9 c9]) (by simp [results, Tryd.results28, go_sem, cz9]) rfl hfin9.out
/-- Two variables behind the source hold systems that were drawn. -/
structure TwoC (w1 W : World) (R G H M : Nat) (s : Sys) (A : Option Addr) (n c : Nat) (t : Sys) (B : Option Addr) (m d : Nat) : Prop where
  va : Blk W G 25 #[.int .i64 s.al, .int .i64 s.st, .slice A n c]
  ia : SysIn W R A n s
  vb : Blk W H 25 #[.int .i64 t.al, .int .i64 t.st, .slice B m d]
  ib : SysIn W R B m t
  rd : Rd W R M
  dr : Dr R w1 W
  hR : R < w1.heap.size
  hG : w1.heap.size ≤ G
  hH : G < H
section
variable {w1 W W' : World} {R G H M N : Nat} {s t : Sys} {A B : Option Addr} {n c m d : Nat}
theorem TwoC.drawn (h : TwoC w1 W R G H M s A n c t B m d) (hd : Dr R W W') (hr : Rd W' R N) : TwoC w1 W' R G H N s A n c t B m d :=
  ⟨h.va.dr hd (by have := h.hR; have := h.hG; omega), h.ia.dr hd, h.vb.dr hd (by have := h.hR; have := h.hG; have := h.hH; omega), h.ib.dr hd, hr, h.dr.trans hd, h.hR, h.hG, h.hH⟩
theorem TwoC.setA {s' : Sys} {A' : Option Addr} {n' c' : Nat} (h : TwoC w1 W R G H M s A n c t B m d) (hs : SysIn W R A' n' s') :
    TwoC w1 (((W.setCell ⟨G, 0, none⟩ (.int .i64 s'.al)).setCell ⟨G, 1, none⟩ (.int .i64 s'.st)).setCell ⟨G, 2, none⟩ (.slice A' n' c')) R G H M s' A' n' c' t B m d := by
  have hf := frm_fill W G (.int .i64 s'.al) (.int .i64 s'.st) (.slice A' n' c')
  have h1 := h.hR; have h2 := h.hG; have h3 := h.hH
  exact ⟨blk_fill h.va rfl _ _ _, hs.far h.va (by decide) hf, h.vb.frm hf (by omega), h.ib.far h.va (by decide) hf, h.rd.frm hf (fun k a b => by omega),
    ((h.dr.setNew (p := ⟨G, 0, none⟩) (by dsimp only; omega) _).setNew (p := ⟨G, 1, none⟩) (by dsimp only; omega) _).setNew (p := ⟨G, 2, none⟩) (by dsimp only; omega) _, h1, h2, h3⟩
theorem TwoC.setB {t' : Sys} {B' : Option Addr} {m' d' : Nat} (h : TwoC w1 W R G H M s A n c t B m d) (hs : SysIn W R B' m' t') :
    TwoC w1 (((W.setCell ⟨H, 0, none⟩ (.int .i64 t'.al)).setCell ⟨H, 1, none⟩ (.int .i64 t'.st)).setCell ⟨H, 2, none⟩ (.slice B' m' d')) R G H M s A n c t' B' m' d' := by
  have hf := frm_fill W H (.int .i64 t'.al) (.int .i64 t'.st) (.slice B' m' d')
  have h1 := h.hR; have h2 := h.hG; have h3 := h.hH
  exact ⟨h.va.frm hf (by omega), h.ia.far h.vb (by decide) hf, blk_fill h.vb rfl _ _ _, hs.far h.vb (by decide) hf, h.rd.frm hf (fun k a b => by omega),
    ((h.dr.setNew (p := ⟨H, 0, none⟩) (by dsimp only; omega) _).setNew (p := ⟨H, 1, none⟩) (by dsimp only; omega) _).setNew (p := ⟨H, 2, none⟩) (by dsimp only; omega) _, h1, h2, h3⟩
end
theorem RetD2.drew {w W : World} {e : Ending} (h : RetD2 w e W) : RetD2 w e W.drew := by
  obtain ⟨s, A, n, c, t, B, m, d, h1, h2, h3, h4, h5, h6⟩ := h
  exact ⟨s, A, n, c, t, B, m, d, h1, h2.ext (Ext.refl _).drew, h3.ext (Ext.refl _).drew, h4, h5, h6.drew⟩
set_option maxRecDepth 100000 in
theorem spec_DrawComposeSystems {A : Option Addr} {n c : Nat} {w : World} (h : Bytes w A n) (hn : n ≤ 9223372036854775807) (hc : n ≤ c) (hc2 : c ≤ 9223372036854775807) :
    Calls Tryd.prog 11 #[.slice A n c] w (RetD2 w) := by
  have hx0 : Ext w ((w.alloc (.cells #[.int .i64 0, .int .i64 0, .slice none 0 0] 25)).alloc (.cells #[.int .i64 0, .int .i64 0, .slice none 0 0] 25)) := ((Ext.refl _).alloc _).alloc _
  obtain ⟨bz, by_⟩ := ext_blk2 (Ext.refl ((w.alloc (.cells #[.int .i64 0, .int .i64 0, .slice none 0 0] 25)).alloc (.cells #[.int .i64 0, .int .i64 0, .slice none 0 0] 25)))
  have hh := hide (h.ext hx0)
  have hz0 := by_.lt
  clear h
  go_enter Tryd.func11, Tryd.ntmps11
  go_wp2_with fail
  refine (spec_l19Open hh.out hn hc hc2).mono ?_
  rintro e w1 ⟨R, rfl, hR, hr1, hx1⟩
  have hx01 := hx0.trans hx1
  have bz1 := bz.ext hx1
  have by1 := by_.ext hx1
  have hR1 := hr1.lt
  clear bz by_ hx0 hx1
  generalize (w.alloc (.cells #[.int .i64 0, .int .i64 0, .slice none 0 0] 25)).alloc (.cells #[.int .i64 0, .int .i64 0, .slice none 0 0] 25) = w0 at *
  have hwR : w.heap.size + 2 ≤ R := by omega
  go_wp2_with fail
  refine (spec_l2Small hr1 (by omega)).mono ?_
  rintro e w2 ⟨s, A2, n2, c2, rfl, hs2, hg2, hn2, hr2, hd2⟩
  have hx3 := (Ext.refl w2).alloc (.cells #[.int .i64 s.al, .int .i64 s.st, .slice A2 n2 c2] 25)
  have b3 := Blk.new w2 25 #[.int .i64 s.al, .int .i64 s.st, .slice A2 n2 c2]
  have Hg := hide hg2
  have hs3 := hs2.ext hx3
  have hr3 := hr2.ext hx3
  have hw3 := hd2.ext hx3
  have hzd := hd2.size
  obtain ⟨G, hG⟩ : ∃ G, Hid (G = w2.heap.size) := ⟨_, hide rfl⟩
  rw [← hG.out] at b3
  go_upto_region 3 with fail
  rw [← hG.out]
  clear hs2 hr2 hd2 hg2 hx3
  generalize w2.alloc (.cells #[.int .i64 s.al, .int .i64 s.st, .slice A2 n2 c2] 25) = w3 at *
  go_wp2_with fail
  refine (spec_l2Small hr3 (by omega)).mono ?_
  rintro e w4 ⟨t, B4, m4, d4, rfl, ht4, hg4, hm4, hr4, hd4⟩
  have hx5 := (Ext.refl w4).alloc (.cells #[.int .i64 t.al, .int .i64 t.st, .slice B4 m4 d4] 25)
  have b5 := Blk.new w4 25 #[.int .i64 t.al, .int .i64 t.st, .slice B4 m4 d4]
  have hGR : R < G := by have := hG.out; omega
  have hb34 := b3.dr hd4 (by omega)
  obtain ⟨H, hH⟩ : ∃ H, Hid (H = w4.heap.size) := ⟨_, hide rfl⟩
  rw [← hH.out] at b5
  have htwo : TwoC w1 (w4.alloc (.cells #[.int .i64 t.al, .int .i64 t.st, .slice B4 m4 d4] 25)) R G H 60000 s A2 n2 c2 t B4 m4 d4 :=
    ⟨hb34.ext hx5, (hs3.dr hd4).ext hx5, b5, ht4.ext hx5, (hr4.ext hx5).more (by omega), (hw3.trans hd4).ext hx5, hR1, by have := hG.out; omega, by have := hb34.lt; have := hH.out; omega⟩
  go_upto_region 4 with fail
  rw [← hH.out]
  clear hs3 hr3 hw3 b3 ht4 hg4 hr4 hd4 hx5 b5 hb34
  generalize w4.alloc (.cells #[.int .i64 t.al, .int .i64 t.st, .slice B4 m4 d4] 25) = w5 at *
  go_wp2_with fail
  refine (l19Rd_pick (n := 8) htwo.rd (by omega)).mono ?_
  rintro e w6 ⟨y, rfl, -, -, hr6, hd6⟩
  replace htwo := htwo.drawn hd6 hr6
  clear hr6 hd6
  go_upto_block 0 with fail
  go_cut [] (fun wx => ∃ (s : Sys) (A : Option Addr) (n c : Nat) (t : Sys) (B : Option Addr) (m d N : Nat), TwoC w1 wx R G H N s A n c t B m d ∧ (n ≤ 40000 ∧ n ≤ c) ∧ (m ≤ 40000 ∧ m ≤ d))
  case first =>
    have cG := htwo.va.cell
    have fG := htwo.va.frozen
    have cH := htwo.vb.cell
    have fH := htwo.vb.frozen
    by_cases y0 : y = 0
    · subst y0
      clear cG fG cH fH
      go_wp2_with fail
      refine (spec_l2Draw htwo.rd (by omega)).mono ?_
      rintro e w7 ⟨s7, A7, n7, c7, rfl, hs7, -, hn7, hr7, hd7⟩
      replace htwo := htwo.drawn hd7 hr7
      have cG := htwo.va.cell
      have fG := htwo.va.frozen
      have hf := htwo.setA (c' := c7) hs7
      go_wp2_with fail
      go_meet
      exact ⟨_, _, _, _, _, _, _, _, _, hf, by omega, by omega⟩
    by_cases y1 : y = 1
    · subst y1
      clear fG cH fH
      go_wp2_with fail
      refine (spec_l6Change (L := n2) htwo.rd (by omega) htwo.ia Hg.out (Nat.le_refl _) (by omega)).mono ?_
      rintro e w7 ⟨s7, A7, n7, c7, rfl, hs7, -, hn7, hr7, hd7⟩
      replace htwo := htwo.drawn hd7 hr7
      clear cG
      have cH := htwo.vb.cell
      have fH := htwo.vb.frozen
      have hf := htwo.setB (d' := c7) hs7
      go_wp2_with fail
      go_meet
      exact ⟨_, _, _, _, _, _, _, _, _, hf, by omega, by omega⟩
    by_cases y2 : y = 2
    · subst y2
      clear cG fG cH fH
      go_wp2_with fail
      refine (spec_l2Big htwo.rd (by omega)).mono ?_
      rintro e w7 ⟨s7, A7, n7, c7, rfl, hs7, -, hn7, hn7', hr7, hd7⟩
      replace htwo := htwo.drawn hd7 hr7
      have cG := htwo.va.cell
      have fG := htwo.va.frozen
      have hf := htwo.setA (c' := c7) hs7
      go_wp2_with fail
      go_meet
      exact ⟨_, _, _, _, _, _, _, _, _, hf, by omega, by omega⟩
    by_cases y3 : y = 3
    · subst y3
      clear cG fG fH
      go_wp2_with fail
      refine (spec_l2Wrong (L := m4) htwo.rd (by omega) htwo.ib (Nat.le_refl _) (by omega)).mono ?_
      rintro e w7 ⟨s7, A7, n7, c7, rfl, hs7, hn7, hr7, hd7⟩
      replace htwo := htwo.drawn hd7 hr7
      clear cH
      go_wp2_with fail
      refine (spec_l2Wrong (L := n7) hr7 (by omega) hs7 (Nat.le_refl _) (by omega)).mono ?_
      rintro e w8 ⟨s8, A8, n8, c8, rfl, hs8, hn8, hr8, hd8⟩
      replace htwo := htwo.drawn hd8 hr8
      have cH := htwo.vb.cell
      have fH := htwo.vb.frozen
      have hf := htwo.setB (d' := c8) hs8
      go_wp2_with fail
      go_meet
      exact ⟨_, _, _, _, _, _, _, _, _, hf, by omega, by omega⟩
    by_cases y4 : y = 4
    · subst y4
      clear cG fG cH fH
      go_wp2_with fail
      refine (spec_l2Draw htwo.rd (by omega)).mono ?_
      rintro e w7 ⟨s7, A7, n7, c7, rfl, hs7, -, hn7, hr7, hd7⟩
      replace htwo := htwo.drawn hd7 hr7
      have cG := htwo.va.cell
      have fG := htwo.va.frozen
      have hf := htwo.setA (c' := c7) hs7
      go_upto_region 15 with fail
      clear cG fG htwo
      generalize ((w7.setCell ⟨G, 0, none⟩ (.int .i64 s7.al)).setCell ⟨G, 1, none⟩ (.int .i64 s7.st)).setCell ⟨G, 2, none⟩ (.slice A7 n7 c7) = w8 at *
      go_wp2_with fail
      refine (spec_l2Draw hf.rd (by omega)).mono ?_
      rintro e w9 ⟨s9, A9, n9, c9, rfl, hs9, -, hn9, hr9, hd9⟩
      replace hf := hf.drawn hd9 hr9
      have cH := hf.vb.cell
      have fH := hf.vb.frozen
      have hf2 := hf.setB (d' := c9) hs9
      go_wp2_with fail
      go_meet
      exact ⟨_, _, _, _, _, _, _, _, _, hf2, by omega, by omega⟩
    · have z0 : ((y : Int) == 0) = false := by simp; omega
      have z1 : ((y : Int) == 1) = false := by simp; omega
      have z2 : ((y : Int) == 2) = false := by simp; omega
      have z3 : ((y : Int) == 3) = false := by simp; omega
      have z4 : ((y : Int) == 4) = false := by simp; omega
      clear y0 y1 y2 y3 y4 cG fG cH fH
      go_wp2_with fail
      go_meet
      exact ⟨_, _, _, _, _, _, _, _, _, htwo, by omega, by omega⟩
  case rest =>
    clear htwo hn2 hm4 Hg
    obtain ⟨s, A2, n2, c2, t, B4, m4, d4, N, htwo, hn2, hm4⟩ := hcut
    obtain ⟨wE, hwE⟩ : ∃ wE, wE = wc := ⟨_, rfl⟩
    subst hwE
    have hGw := htwo.hG
    have hHw := htwo.hH
    have bz2 := bz1.dr htwo.dr (by omega)
    have by2 := by1.dr htwo.dr (by omega)
    have hfin := hide ((draw_two (c := c2) (d := d4) htwo.ia htwo.ib hn2 hm4 (by omega) (Dr.new hx01 (by omega) htwo.dr) bz2 by2).drew)
    have hS0 : Frm (fun k => k = w.heap.size) wE wE.drew := ⟨rfl, rfl, rfl, Nat.le_refl _, fun _ _ _ => rfl⟩
    have cG : ∀ W, Frm (fun k => k = w.heap.size) wE W → ∀ q, W.cell? ⟨G, q, none⟩ = #[Value.int .i64 s.al, .int .i64 s.st, .slice A2 n2 c2][q]? := fun W hW => (htwo.va.frm hW (by omega)).cell
    have cH : ∀ W, Frm (fun k => k = w.heap.size) wE W → ∀ q, W.cell? ⟨H, q, none⟩ = #[Value.int .i64 t.al, .int .i64 t.st, .slice B4 m4 d4][q]? := fun W hW => (htwo.vb.frm hW (by omega)).cell
    have cz1 := bz2.cell
    have fz1 := bz2.frozen
    have cz2 := by2.cell
    have fz2 := by2.frozen
    go_wp2_with fail
    refine wp_region_tail (fun X => Frm (fun k => k = w.heap.size) wE X) [3] (Ord.of [0, 1, 2, 3]) (by kernel_rfl) rfl (by kernel_rfl) (by kernel_rfl) (by kernel_rfl) (fun _ _ _ _ _ h => h) (by first | assumption | exact (Ext.refl _).drew | exact (Dr.refl _ _).drew | (refine Ext.drew ?_; assumption)) ?_
    repeat (first | (refine tseq_skip rfl rfl (by assumption) ?_; simp only [Act.put, List.setIfInBounds_toArray, List.set_cons_zero, List.set_cons_succ]) | (refine tseq_pure (v := ?_) rfl rfl rfl rfl (fun X => ?_) ?_; rotate_left; (focus (go_simp <;> with_reducible rfl)); simp only [Act.put, List.setIfInBounds_toArray, List.set_cons_zero, List.set_cons_succ]) | (refine tseq_read (v := ?_) rfl rfl rfl rfl (fun X hX => ?_) ?_; rotate_left; (focus (go_simp <;> with_reducible rfl)); simp only [Act.put, List.setIfInBounds_toArray, List.set_cons_zero, List.set_cons_succ]))
    (refine tseq_step rfl rfl rfl (fun K hK => ?_); go_simp)
    refine hK.out _ _ (hS0.trans (frm_fill _ _ _ _ _)) ?_
    (try simp only [Act.put, List.setIfInBounds_toArray, List.set_cons_zero, List.set_cons_succ])
    (refine tseq_last rfl rfl rfl rfl (fun K hK => ?_))
    go_simp
    refine hK.out _ _ ?_
    refine tseq_nil ?_
    go_wp2_with fail
    exact bodyPost_ret (v := .tuple #[.agg #[.int .i64 s.al, .int .i64 s.st, .slice A2 n2 c2], .agg #[.int .i64 t.al, .int .i64 t.st, .slice B4 m4 d4]]) (by simp [results, Tryd.results11, go_sem, cz1, cz2]) rfl hfin.out
end Go.Proofs.YtcmgkekaeafgaaaDoor

namespace Go.Proofs.YtcmgkekaeafgaaaDoor
open Go Go.ChangeShapes Go.WideShapes Go.ChangeAt Go.RowKit Go.Deep

/-- A slice of bytes that came in. -/
def BytesAt (w : World) (A : Option Addr) (n c : Nat) : Prop := Bytes w A n ∧ n ≤ 9223372036854775807 ∧ n ≤ c ∧ c ≤ 9223372036854775807
set_option maxRecDepth 100000 in
theorem arg_bytes {H : Type} {enc : TypeId × Value → H} {w : World} {spare : Nat → Bool} {held : Bool} {r : Reach} {b0 : Nat} {v : Value} {d : DataW H} {p : List MemPlace} (hv : Value.okWide Tryd.prog w r b0 22 v) (h : DataW.Trod enc Tryd.prog w 0 spare held 22 v d p) :
    ∃ (A : Option Addr) (n c : Nat), v = .slice A n c ∧ BytesAt w A n c := by
  obtain ⟨a, l, k, rfl⟩ := okWide_slice Tryd.underlying22 hv
  obtain ⟨fuel, hf⟩ := h
  rcases open_slice1 Tryd.underlying22 (by kernel_rfl) hf with ⟨h0, _⟩ | ⟨ad, len, cap, m, n, V, D, Pl, h0, hb, hl, hm, hmm, _, hx⟩
  · simp [Value.cells] at h0
    obtain ⟨rfl, rfl, rfl⟩ := h0
    exact ⟨_, _, _, rfl, fun h => absurd h (by omega), by omega, Nat.le_refl _, by omega⟩
  · simp [Value.cells] at h0
    obtain ⟨rfl, rfl, rfl⟩ := h0
    unfold maxLen at hm
    have hlm : l ≤ m := by rw [hmm]; split <;> omega
    refine ⟨_, _, _, rfl, fun hn => ?_, by omega, hl, by omega⟩
    have h1 := (hx 0 (by omega)).1
    have hs := addr_spot h1
    have hlt := World.block_lt_of_cell? w _ h1
    rw [addr_block] at hlt
    refine ⟨ad.block, ad.off, by rw [← hs], hlt, fun j hj => ?_⟩
    obtain ⟨h2, h3⟩ := hx j (by omega)
    obtain ⟨b, hb1, _, hb3⟩ := DataW.trod_int Tryd.underlying5 h3
    have hV : V j = .int .u8 b := by simpa using hb1
    rw [hV, hs, addr_lit] at h2
    have hw : 0 ≤ b ∧ b < 256 := by
      simp only [Lit.wf, Bool.and_eq_true, decide_eq_true_eq] at hb3
      have h4 : IntKind.u8.min = 0 := rfl
      have h5 : IntKind.u8.max = 255 := rfl
      omega
    refine ⟨b.toNat, by omega, ?_⟩
    rw [h2]
    have : ((b.toNat : Nat) : Int) = b := by omega
    rw [this]
end Go.Proofs.YtcmgkekaeafgaaaDoor
