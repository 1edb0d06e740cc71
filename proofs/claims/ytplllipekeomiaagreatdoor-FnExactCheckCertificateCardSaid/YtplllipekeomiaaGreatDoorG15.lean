/- The closures of impl.firstBroken, walked. | The closure of impl.firstBroken that goes on from a node, walked. | impl.PartsAlphabet, walked. -/
import Derived.Test.YtplllipekeomiaaGreatDoorG14
import Derived.Test.YtplllipekeomiaaGreatDoorG07
import Derived.Test.YtplllipekeomiaaGreatDoorG13
namespace Go.Proofs.YtplllipekeomiaaGreatDoor
open Go Go.RowKit
set_option maxHeartbeats 4000000

/-- Two cells, each a pointer to an automaton's cells or these themselves. -/
structure GCaps (w : World) (g4 ga g5 g12 g13 : Nat) (a p : Aut) : Prop where
  h4 : Blk w g4 114 #[.pointer (some ⟨ga, 0, none⟩)]
  ha : ∃ (B : Option Addr) (m d : Nat) (B' : Option Addr) (m' d' lo hi : Nat), Blk w ga 35 #[.int .i64 a.al, .slice B m d, .slice B' m' d'] ∧ AutAt w lo hi B m B' m' a
  h5 : ∃ (B : Option Addr) (m d : Nat) (B' : Option Addr) (m' d' lo hi : Nat), Blk w g5 35 #[.int .i64 p.al, .slice B m d, .slice B' m' d'] ∧ AutAt w lo hi B m B' m' p
  h12 : Blk w g12 3 #[.int .i64 (a.next.length : Nat)]
  h13 : Blk w g13 3 #[.int .i64 (p.next.length : Nat)]
theorem GCaps.ext {w w' : World} {g4 ga g5 g12 g13 : Nat} {a p : Aut} (h : GCaps w g4 ga g5 g12 g13 a p) (hx : Ext w w') : GCaps w' g4 ga g5 g12 g13 a p := by
  obtain ⟨B, m, d, B', m', d', lo, hi, h1, h2⟩ := h.ha
  obtain ⟨C, n, c, C', n', c', lo', hi', h3, h4⟩ := h.h5
  exact ⟨h.h4.ext hx, ⟨B, m, d, B', m', d', lo, hi, h1.ext hx, h2.ext hx⟩, ⟨C, n, c, C', n', c', lo', hi', h3.ext hx, h4.ext hx⟩, h.h12.ext hx, h.h13.ext hx⟩
theorem accB_cell {w : World} {lo hi q : Nat} {B B' : Option Addr} {m m' : Nat} {a : Aut} (h : AutAt w lo hi B m B' m' a) (hq : q < m') : ∃ ad, B' = some ad ∧ w.cell? (ad.add q) = some (.bool (accB a q)) := by
  obtain ⟨ad, x, rfl, _, _, hx, hc⟩ := h.2.2.bool hq
  exact ⟨ad, rfl, by rw [hc]; unfold accB; rw [List.getD_eq_getElem?_getD, hx.out]; rfl⟩
set_option maxRecDepth 100000 in
theorem brk_goal {g4 ga g5 g12 g13 x : Nat} {a p : Aut} {w : World} (h : GCaps w g4 ga g5 g12 g13 a p) (hv : autValid a = true) (hp : autValid p = true) (hx : x ≤ 4611686018427387904) :
    Calls Tryz.prog 115 #[.int .i64 (x : Nat), .pointer (some ⟨g4, 0, none⟩), .pointer (some ⟨g13, 0, none⟩), .pointer (some ⟨g12, 0, none⟩), .pointer (some ⟨g5, 0, none⟩)] w fun e w' => e = .returned (.bool (accB a (x / p.next.length % a.next.length) && !accB p (x % p.next.length))) ∧ Ext w w' := by
  obtain ⟨_, ⟨a1, a2⟩, a3, _⟩ := autValid_row hv
  obtain ⟨_, ⟨p1, p2⟩, p3, _⟩ := autValid_row hp
  obtain ⟨B, m, d, B', m', d', lo, hi, ha, hA⟩ := h.ha
  obtain ⟨C, n, c, C', n', c', lo', hi', h5, hP⟩ := h.h5
  have hm' := hA.n2
  have hn' := hP.n2
  have h4 := h.h4
  have h12 := h.h12
  have h13 := h.h13
  clear h hv hp
  generalize hNa : a.next.length = N at *
  generalize hNp : p.next.length = Mp at *
  have hN0 : x / Mp % N < N := Nat.mod_lt _ a1
  have hM0 : x % Mp < Mp := Nat.mod_lt _ p1
  obtain ⟨ad, rfl, hc1⟩ := accB_cell hA (q := x / Mp % N) (by omega)
  obtain ⟨ad2, rfl, hc2⟩ := accB_cell hP (q := x % Mp) (by omega)
  have hdv : (x : Int) / (Mp : Int) = ((x / Mp : Nat) : Int) := (Int.natCast_ediv x Mp).symm
  have hmd : ((x / Mp : Nat) : Int) % (N : Int) = ((x / Mp % N : Nat) : Int) := (Int.natCast_emod _ N).symm
  have hmd2 : (x : Int) % (Mp : Int) = ((x % Mp : Nat) : Int) := (Int.natCast_emod x Mp).symm
  have hxd : x / Mp ≤ 4611686018427387904 := Nat.le_trans (Nat.div_le_self _ _) hx
  have hN1 : ¬ (N = 0) := by omega
  have hM1 : ¬ (Mp = 0) := by omega
  have hqm : x / Mp % N < m' := by omega
  have hqn : x % Mp < n' := by omega
  have K4 := h4.cell 0
  have Ka := ha.cell
  have K5 := h5.cell
  have K12 := h12.cell 0
  have K13 := h13.cell 0
  clear h4 h12 h13 ha h5 hA hP hm' hn' a3 p3 hNa hNp hN0 hM0 a1 a2 p1 p2
  generalize x / Mp % N = q1 at *
  generalize x % Mp = q2 at *
  generalize x / Mp = xd at *
  have hq1 : (q1 : Int) < (m' : Int) := by omega
  have hq2 : (q2 : Int) < (n' : Int) := by omega
  generalize accB a q1 = b1 at *
  generalize accB p q2 = b2 at *
  cases b1
  all_goals
    go_enter Tryz.func115, Tryz.ntmps115
    go_wp2_with fail
    go_quiet (fail)
    go_wp2_with fail
    go_ret
    exact ⟨ret_bool (by simp), (Ext.refl _).drewN _⟩
end Go.Proofs.YtplllipekeomiaaGreatDoor

namespace Go.Proofs.YtplllipekeomiaaGreatDoor
open Go Go.RowKit
set_option maxHeartbeats 4000000

/-- The nodes to which a letter leads. -/
def brkD (ss : List Sys) (a p : Aut) (x l : Nat) : List Nat := (nx ss (x / p.next.length / a.next.length) l).1.map fun y => y * a.next.length * p.next.length + (aGo a (x / p.next.length % a.next.length) l * p.next.length + aGo p (x % p.next.length) l)
theorem brkD_pnx (ss : List Sys) (a p : Aut) : brkD ss a p = pnx (mems ss [a, p]) := by
  funext x l
  rw [brkD, mems, List.map_cons, List.map_cons, List.map_nil, pnx_under]
/-- Some of what was appended has been turned into nodes. -/
theorem mix_set {xs R : List Nat} {f : Nat → Nat} {j r : Nat} (hr : R[j]? = some r) : (nats (xs ++ (R.take j).map f ++ R.drop j)).set (xs.length + j) (.int .i64 (f r : Nat)) = nats (xs ++ (R.take (j + 1)).map f ++ R.drop (j + 1)) := by
  have hj := (List.getElem?_eq_some_iff.1 hr).1
  have hd : R.drop j = r :: R.drop (j + 1) := by
    have := (List.getElem?_eq_some_iff.1 hr).2
    rw [← this]
    exact List.drop_eq_getElem_cons hj
  unfold nats
  rw [← List.map_set]
  congr 1
  rw [List.take_add_one, hr, Option.toList_some, List.map_append, hd, List.set_append_right _ _ (by simp; omega)]
  have : xs.length + j - (xs ++ (R.take j).map f).length = 0 := by simp; omega
  rw [this]
  simp
theorem mix_get {xs R : List Nat} {f : Nat → Nat} {j r : Nat} (hr : R[j]? = some r) : (nats (xs ++ (R.take j).map f ++ R.drop j))[xs.length + j]? = some (.int .i64 (r : Nat)) := by
  have hj := (List.getElem?_eq_some_iff.1 hr).1
  unfold nats
  rw [List.getElem?_map, List.getElem?_append_right (by simp; omega)]
  have : xs.length + j - (xs ++ (R.take j).map f).length = 0 := by simp; omega
  rw [this, List.getElem?_drop, Nat.add_zero, hr]
  rfl
/-- What the closure hands back. -/
def RetBrk (w : World) (base : Nat) (v : Value) (ys : List Nat) (e : Ending) (w' : World) : Prop := ∃ A' c', e = .returned (.slice A' ys.length c') ∧ w'.ownsRow base 3 1 (.slice A' ys.length c') ys.length (nats ys) ∧ Frm (fun b => v.ownBlock = some b) w w'
set_option maxRecDepth 100000 in
theorem brk_next {w0 w : World} {g8 g10 g11 g12 g13 base x l m c c0 k dm uc rc : Nat} {A M UA RA Ao : Option Addr} {ss : List Sys} {a p : Aut} {xs : List Nat} (h : BCaps w0 g8 g10 g11 g12 g13 A M UA RA k c dm uc rc ss a p) (hT : Tab w0) (hw : Ext w0 w) (hs : ∀ s ∈ ss, Sml s) (hk : k ≤ 3) (hv : autValid a = true) (hp : autValid p = true)
    (hx : x < prodN (mems ss [a, p])) (hl : l < 6) (hb0 : w0.heap.size ≤ base) (hb : base ≤ w.heap.size) (hm : m ≤ 1099511627776) (hown : w.ownsRow base 3 1 (.slice Ao m c0) m (nats xs)) :
    Calls Tryz.prog 113 #[.int .i64 (x : Nat), .int .i64 (l : Nat), .slice Ao m c0, .pointer (some ⟨g10, 0, none⟩), .pointer (some ⟨g13, 0, none⟩), .pointer (some ⟨g12, 0, none⟩), .pointer (some ⟨g11, 0, none⟩), .pointer (some ⟨g8, 0, none⟩)] w (RetBrk w base (.slice Ao m c0) (xs ++ brkD ss a p x l)) := by
  obtain ⟨_, ⟨a1, a2⟩, _, _⟩ := autValid_row hv
  obtain ⟨_, ⟨p1, p2⟩, _, _⟩ := autValid_row hp
  have hgu := hide (fun q (hq : q < a.next.length) => aGo_lt hv hq hl)
  have hgp := hide (fun q (hq : q < p.next.length) => aGo_lt hp hq hl)
  have hN4 : prodN (mems ss [a, p]) ≤ 4096 * 144 := by
    have h1 : mems ss [a, p] = ss.map sMem ++ [aMem a, aMem p] := rfl
    rw [h1, prodN_append]
    have h2 := prodN_sys_le hs
    obtain ⟨lo, hi, lo', hi', h3⟩ := h.pt
    have h4 : 16 ^ ss.length ≤ 4096 := by
      calc 16 ^ ss.length ≤ 16 ^ 3 := Nat.pow_le_pow_right (by omega) (by have := h3.sys.1; omega)
        _ = 4096 := by decide
    have h5 : prodN [aMem a, aMem p] ≤ 144 := by
      simp only [prodN, prodS, aMem, List.map_cons, List.map_nil, Nat.mul_one]
      exact Nat.mul_le_mul a2 p2
    exact Nat.mul_le_mul (Nat.le_trans h2 h4) h5
  have hmemlt := hide (fun y hy => pnx_lt (ms := mems ss [a, p]) (x := x) (fun mm hmm => by
    rcases List.mem_append.1 hmm with h1 | h1
    · obtain ⟨s, hs', rfl⟩ := List.mem_map.1 h1
      exact sMem_ok (hs s hs')
    · obtain ⟨b, hb', rfl⟩ := List.mem_map.1 h1
      simp at hb'
      rcases hb' with rfl | rfl
      · exact aMem_ok hv
      · exact aMem_ok hp) hl y hy)
  have hnxl := hide (nx_len hs (x / p.next.length / a.next.length) l)
  have hDe := hide (show brkD ss a p x l = (nx ss (x / p.next.length / a.next.length) l).1.map fun y => y * a.next.length * p.next.length + (aGo a (x / p.next.length % a.next.length) l * p.next.length + aGo p (x % p.next.length) l) from rfl)
  have Hlt := hide (show ∀ y ∈ brkD ss a p x l, y < 589824 from fun y hy => by
    rw [brkD_pnx] at hy
    have := hmemlt.out y hy
    omega)
  have HC := hide (fun W (hW : Ext w0 W) => h.ext hW)
  have hpt : ∃ lo hi lo' hi', ∀ W, Ext w0 W → PtAt W lo hi A k lo' hi' M ss := by
    obtain ⟨lo, hi, lo', hi', h3⟩ := h.pt
    exact ⟨lo, hi, lo', hi', fun W hW => h3.ext hW⟩
  obtain ⟨lo, hi, lo', hi', hpt⟩ := hpt
  have Hpt := hide hpt
  have HT := hide (fun W (hW : Ext w0 W) => hT.ext hW)
  have Hs := hide hs
  clear h hT hs hv hp hmemlt hpt
  obtain ⟨N, hN⟩ : ∃ N, Hid (a.next.length = N) := ⟨_, rfl⟩
  obtain ⟨Mp, hMp⟩ : ∃ Mp, Hid (p.next.length = Mp) := ⟨_, rfl⟩
  rw [hN.out] at a1 a2 hgu hnxl hDe
  rw [hMp.out] at p1 p2 hgp hnxl hDe
  have hN0 : x / Mp % N < N := Nat.mod_lt _ a1
  have hM0 : x % Mp < Mp := Nat.mod_lt _ p1
  have hu := hgu.out _ hN0
  have hr := hgp.out _ hM0
  obtain ⟨ug, uo, rfl, hcu⟩ : ∃ g o, UA = some ⟨g, o, none⟩ ∧ ∀ W, Ext w0 W → W.cell? ⟨g, o + x / Mp % N * 6 + l, none⟩ = some (.int .i64 (aGo a (x / Mp % N) l : Nat)) := by
    obtain ⟨l1, h1, htb⟩ := (HC.out w0 (Ext.refl _)).tu
    obtain ⟨g, o, e, hc⟩ := htb.at_ (q := x / Mp % N) (by rw [hN.out]; exact hN0) hl
    exact ⟨g, o, e, fun W hW => hW.cell_some hc⟩
  obtain ⟨rg, ro, rfl, hcr⟩ : ∃ g o, RA = some ⟨g, o, none⟩ ∧ ∀ W, Ext w0 W → W.cell? ⟨g, o + x % Mp * 6 + l, none⟩ = some (.int .i64 (aGo p (x % Mp) l : Nat)) := by
    obtain ⟨l1, h1, htb⟩ := (HC.out w0 (Ext.refl _)).tr
    obtain ⟨g, o, e, hc⟩ := htb.at_ (q := x % Mp) (by rw [hMp.out]; exact hM0) hl
    exact ⟨g, o, e, fun W hW => hW.cell_some hc⟩
  have hdv : (x : Int) / (Mp : Int) = ((x / Mp : Nat) : Int) := (Int.natCast_ediv x Mp).symm
  have hdv2 : ((x / Mp : Nat) : Int) / (N : Int) = ((x / Mp / N : Nat) : Int) := (Int.natCast_ediv _ N).symm
  have hmd : ((x / Mp : Nat) : Int) % (N : Int) = ((x / Mp % N : Nat) : Int) := (Int.natCast_emod _ N).symm
  have hmd2 : (x : Int) % (Mp : Int) = ((x % Mp : Nat) : Int) := (Int.natCast_emod x Mp).symm
  have hxs : x ≤ 589824 := by omega
  have hxd : x / Mp ≤ 589824 := Nat.le_trans (Nat.div_le_self _ _) hxs
  have hxe : x / Mp / N ≤ 589824 := Nat.le_trans (Nat.div_le_self _ _) hxd
  have hN1 : ¬ (N = 0) := by omega
  have hM1 : ¬ (Mp = 0) := by omega
  have hmulu : aGo a (x / Mp % N) l * Mp ≤ 12 * 12 := Nat.mul_le_mul (by omega) (by omega)
  obtain ⟨rest, hrest⟩ : ∃ z : Nat, Hid (aGo a (x / Mp % N) l * Mp + aGo p (x % Mp) l = z) := ⟨_, rfl⟩
  obtain ⟨um, hum⟩ : ∃ z : Nat, Hid (aGo a (x / Mp % N) l * Mp = z) := ⟨_, rfl⟩
  have hummi : ((aGo a (x / Mp % N) l : Nat) : Int) * (Mp : Int) = (um : Int) := by rw [← hum.out]; exact (Int.natCast_mul _ Mp).symm
  rw [hum.out] at hmulu
  have hrest2 : rest = um + aGo p (x % Mp) l := by rw [← hrest.out, hum.out]
  have Hrest2 := hide hrest2
  clear hrest2
  rw [hrest.out] at hDe
  generalize aGo a (x / Mp % N) l = au at *
  generalize aGo p (x % Mp) l = ap at *
  generalize x / Mp % N = q1 at *
  generalize x % Mp = q2 at *
  generalize hxE : x / Mp / N = xe at *
  have HxE := hide hxE
  clear hxE
  generalize x / Mp = xd at *
  clear hgu hgp hrest hum
  have hq1 : (q1 : Int) < (N : Int) := by omega
  have hq2 : (q2 : Int) < (Mp : Int) := by omega
  have hli : (l : Int) < 6 := by omega
  have K10 : ∀ W, Ext w0 W → ∀ i, W.cell? ⟨g10, i, none⟩ = #[Value.slice (some ⟨ug, uo, none⟩) N uc][i]? := fun W hW => by have := (HC.out W hW).h10.cell; rw [hN.out] at this; exact this
  have K11 : ∀ W, Ext w0 W → ∀ i, W.cell? ⟨g11, i, none⟩ = #[Value.slice (some ⟨rg, ro, none⟩) Mp rc][i]? := fun W hW => by have := (HC.out W hW).h11.cell; rw [hMp.out] at this; exact this
  have K12 : ∀ W, Ext w0 W → ∀ i, W.cell? ⟨g12, i, none⟩ = #[Value.int .i64 (N : Nat)][i]? := fun W hW => by have := (HC.out W hW).h12.cell; rw [hN.out] at this; exact this
  have K13 : ∀ W, Ext w0 W → ∀ i, W.cell? ⟨g13, i, none⟩ = #[Value.int .i64 (Mp : Nat)][i]? := fun W hW => by have := (HC.out W hW).h13.cell; rw [hMp.out] at this; exact this
  have K8 : ∀ W, Ext w0 W → ∀ i, W.cell? ⟨g8, i, none⟩ = #[Value.slice A k c, Value.slice M k dm][i]? := fun W hW => (HC.out W hW).h8.cell
  have Hk := hide (And.intro K10 (And.intro K11 (And.intro K12 (And.intro K13 K8))))
  have Hcc := hide (And.intro hcu hcr)
  have hxsl : xs.length = m := by have := own_len hown; simp [nats] at this; omega
  have Hxsl := hide hxsl
  clear K10 K11 K12 K13 K8 hcu hcr hxsl
  have hR16 := hide (show (nx ss xe l).1.length ≤ 4096 from Nat.le_trans hnxl.out (by
    obtain hh := (Hpt.out w hw).sys.1
    calc 16 ^ ss.length ≤ 16 ^ 3 := Nat.pow_le_pow_right (by omega) (by omega)
      _ = 4096 := by decide))
  have CN := hide (fun W (hW : Ext w W) => impl_next (c := c) (d := dm) (m := xe) (l := l) (v := .slice Ao m c0) (n := m) (xs := nats xs) (base := base) (Hpt.out W (hw.trans hW)) Hs.out (by omega) (by omega) hl (HT.out W (hw.trans hW)) (own_ext hown hW) (Nat.le_trans hb hW.size) hm)
  have hrl : rest ≤ 1000 := by have := Hrest2.out; omega
  have hrsti : (um : Int) + (ap : Int) = (rest : Int) := by have := Hrest2.out; omega
  generalize (nx ss xe l).1 = R at *
  have hob := hide (fun b (hb' : (Value.slice Ao m c0).ownBlock = some b) => (hown.lt b hb').1)
  clear hnxl HxE hown
  have hk10 := fun W (hW : Ext w W) => Hk.out.1 W (hw.trans hW)
  have hk11 := fun W (hW : Ext w W) => Hk.out.2.1 W (hw.trans hW)
  have hk12 := fun W (hW : Ext w W) => Hk.out.2.2.1 W (hw.trans hW)
  have hk13 := fun W (hW : Ext w W) => Hk.out.2.2.2.1 W (hw.trans hW)
  have hk8 := fun W (hW : Ext w W) => Hk.out.2.2.2.2 W (hw.trans hW)
  have hcu := fun W (hW : Ext w W) => Hcc.out.1 W (hw.trans hW)
  have hcr := fun W (hW : Ext w W) => Hcc.out.2 W (hw.trans hW)
  have hww := Ext.refl w
  go_enter Tryz.func113, Tryz.ntmps113
  go_upto_region 1 with fail
  go_cut [12] (fun v wx => v = .int .i64 (rest : Nat) ∧ Ext w wx)
  case first =>
    have k10 := hk10 w hww
    have k11 := hk11 w hww
    have k12 := hk12 w hww
    have k13 := hk13 w hww
    have kcu := hcu w hww
    have kcr := hcr w hww
    go_quiet (fail)
    go_wp2_with fail
    go_meet
    exact ⟨by go_num, hww.drewN _⟩
  case rest =>
    obtain ⟨rfl, hxc⟩ := hcut
    clear hcu hcr hk10 hk11
    replace hk8 := fun W (hW : Ext wc W) => hk8 W (hxc.trans hW)
    replace hk12 := fun W (hW : Ext wc W) => hk12 W (hxc.trans hW)
    replace hk13 := fun W (hW : Ext wc W) => hk13 W (hxc.trans hW)
    have hwc := Ext.refl wc
    go_upto_region 3 with fail
    refine wp_region_tailU (fun X => Ext wc X) [8] (OrdU.of [0, 1, 2, 3, 4, 5, 6, 7, 8, 9]) (by kernel_rfl) (by kernel_rfl) (by kernel_rfl) (by kernel_rfl) (by kernel_rfl) (fun _ _ _ _ _ h => h) (by first | assumption | exact (Ext.refl _).drew | (refine Ext.drew ?_; assumption)) ?_
    repeat (first | (refine useq_skip rfl rfl (by assumption) ?_; simp only [Act.put, List.setIfInBounds_toArray, List.set_cons_zero, List.set_cons_succ]) | (refine useq_pure (v := ?_) rfl rfl rfl rfl (fun X => ?_) ?_; rotate_left; (focus (go_simp <;> with_reducible rfl)); simp only [Act.put, List.setIfInBounds_toArray, List.set_cons_zero, List.set_cons_succ]) | (refine useq_read (v := ?_) rfl rfl rfl rfl (fun X hX => ?_) ?_; rotate_left; (focus (go_simp <;> with_reducible rfl)); simp only [Act.put, List.setIfInBounds_toArray, List.set_cons_zero, List.set_cons_succ]))
    (refine useq_last rfl rfl rfl rfl (fun K hK => ?_))
    go_simp
    have hqx : IntKind.i64.wrap ((IntKind.i64.wrap (xd : Int)).tdiv (N : Int)) = (xe : Int) := by
      rw [wrapN xd (by omega), Int.tdiv_eq_ediv_of_nonneg (by omega), hdv2, wrapN xe (by omega)]
    rw [hqx]
    refine (CN.out _ (hxc.trans hwc.drew)).mono ?_
    rintro e w5 ⟨v', rfl, hown5, hfr5, hob5⟩
    refine hK.out _ _ ?_
    (try simp only [Act.put, List.setIfInBounds_toArray, List.set_cons_zero, List.set_cons_succ])
    repeat (first | (refine useq_skip rfl rfl (by assumption) ?_; simp only [Act.put, List.setIfInBounds_toArray, List.set_cons_zero, List.set_cons_succ]) | (refine useq_pure (v := ?_) rfl rfl rfl rfl (fun X => ?_) ?_; rotate_left; (focus (go_simp <;> with_reducible rfl)); simp only [Act.put, List.setIfInBounds_toArray, List.set_cons_zero, List.set_cons_succ]) | (refine useq_read (v := ?_) rfl rfl rfl rfl (fun X hX => ?_) ?_; rotate_left; (focus (go_simp <;> with_reducible rfl)); simp only [Act.put, List.setIfInBounds_toArray, List.set_cons_zero, List.set_cons_succ]))
    refine useq_nil ?_
    rw [show nats xs ++ nats R = nats (xs ++ (R.take 0).map (fun y => y * N * Mp + rest) ++ R.drop 0) by simp [nats]] at hown5
    have hl5 : (nats xs).length = m := by rw [← Hxsl.out]; simp [nats]
    rw [hl5] at hown5
    obtain ⟨A5, c5, rfl⟩ := own_form hown5
    have hfr : Frm (fun b => (Value.slice Ao m c0).ownBlock = some b) w w5 := ((hxc.trans hwc.drew).toFrm).trans (hfr5.mono fun _ _ h => h)
    have hgrow : Ext w0 w5 := (hw.toFrm.trans (hfr.mono fun b hb1 hb2 => hb2)).mono (T := fun _ => False) (fun b hb1 hb2 => by have := hob.out b hb2; omega)
    have hobx : ∀ b, (Value.slice A5 (m + R.length) c5).ownBlock = some b → (Value.slice Ao m c0).ownBlock = some b ∨ w.heap.size ≤ b := fun b hb' => by
      rcases hob5 with h1 | ⟨b', h1, h2⟩
      · rw [h1] at hb'; exact Or.inl hb'
      · rw [h1] at hb'
        have := Option.some.inj hb'
        have := (hxc.trans hwc.drew).size
        exact Or.inr (by omega)
    have Hobx := hide hobx
    clear hob5 hobx hk8 hfr5 hk12 hk13 hwc
    have Hx := hide (fun (W : World) (hW : Frm (fun b => (Value.slice Ao m c0).ownBlock = some b) w W) => show Ext w0 W from (hw.toFrm.trans (hW.mono fun b _ h => h)).mono (T := fun _ => False) (fun b hb1 hb2 => by have := hob.out b hb2; omega))
    have hmR : m + R.length ≤ 1099511627776 + 4096 := by have := hR16.out; omega
    obtain ⟨Z, hZ⟩ : ∃ Z, Hid (m + R.length = Z) := ⟨_, rfl⟩
    rw [hZ.out] at hmR hown5
    rw [hZ.out] at Hobx
    rw [hZ.out]
    go_wp2_with fail
    go_loopw [14] (fun i wr => ∃ i' j : Nat, i = .int .i64 (i' : Nat) ∧ Hid (i' = m + j) ∧ j ≤ R.length ∧ wr.ownsRow base 3 1 (.slice A5 Z c5) Z (nats (xs ++ (R.take j).map (fun y => y * N * Mp + rest) ++ R.drop j)) ∧ Frm (fun b => (Value.slice Ao m c0).ownBlock = some b) w wr) (fun i _ => Z - (intOf i).toNat)
    case atStart => exact ⟨m, 0, rfl, rfl, Nat.zero_le _, hown5, hfr⟩
    case round =>
      clear hown5 hfr hgrow
      obtain ⟨i, j, rfl, hi, hj, hown, hfr⟩ := hrel
      by_cases hlt : j < R.length
      · obtain ⟨y, hy⟩ : ∃ y, Hid (R[j]? = some y) := ⟨_, hide (List.getElem?_eq_getElem hlt)⟩
        have hlty := Hlt.out (y * N * Mp + rest) (by rw [hDe.out]; exact List.mem_map.2 ⟨y, List.mem_of_getElem? hy.out, rfl⟩)
        have hx0 := Hx.out wr hfr
        have hiZ : i < Z := by have := hi.out; have := hZ.out; omega
        obtain ⟨g5, rfl⟩ : ∃ g, A5 = some ⟨g, 0, none⟩ := by
          rcases hown.2 with ⟨h1, h2⟩ | ⟨g, cap, cur, h1, _⟩
          · injection h1; omega
          · injection h1 with h1; exact ⟨g, h1⟩
        have hmg := hide (mix_get (xs := xs) (f := fun y => y * N * Mp + rest) hy.out)
        have hcy : wr.cell? ⟨g5, i, none⟩ = some (.int .i64 (y : Nat)) := by
          have := hown.cellAt i (by omega)
          rw [this, ← hmg.out, Hxsl.out, hi.out]
        have hms := mix_set (xs := xs) (f := fun y => y * N * Mp + rest) hy.out
        rw [Hxsl.out, ← hi.out] at hms
        have k12 : ∀ W, Ext wr W → ∀ i, W.cell? ⟨g12, i, none⟩ = #[Value.int .i64 (N : Nat)][i]? := fun W hW => Hk.out.2.2.1 W (hx0.trans hW)
        have k13 : ∀ W, Ext wr W → ∀ i, W.cell? ⟨g13, i, none⟩ = #[Value.int .i64 (Mp : Nat)][i]? := fun W hW => Hk.out.2.2.2.1 W (hx0.trans hW)
        have CY : ∀ W, Ext wr W → W.cell? ⟨g5, i, none⟩ = some (.int .i64 (y : Nat)) := fun W hW => hW.cell_some hcy
        have hyN : y * N ≤ y * N * Mp := Nat.le_mul_of_pos_right _ p1
        obtain ⟨yn, hyn⟩ : ∃ z : Nat, Hid (y * N = z) := ⟨_, rfl⟩
        have hyni : (y : Int) * (N : Int) = (yn : Int) := by rw [← hyn.out]; exact (Int.natCast_mul y N).symm
        rw [hyn.out] at hlty hms hyN
        obtain ⟨ym, hym⟩ : ∃ z : Nat, Hid (yn * Mp = z) := ⟨_, rfl⟩
        have hymi : (yn : Int) * (Mp : Int) = (ym : Int) := by rw [← hym.out]; exact (Int.natCast_mul yn Mp).symm
        rw [hym.out] at hlty hms hyN
        have hyr : y ≤ y * N := Nat.le_mul_of_pos_right _ a1
        rw [hyn.out] at hyr
        have hiZi : (i : Int) < (Z : Int) := by omega
        have hw1 : IntKind.i64.wrap (yn : Int) = (yn : Int) := wrapN yn (by omega)
        have hw2 : IntKind.i64.wrap (ym : Int) = (ym : Int) := wrapN ym (by omega)
        have hw3 : IntKind.i64.wrap ((ym : Int) + (rest : Int)) = ((ym + rest : Nat) : Int) := by rw [← Int.natCast_add]; exact wrapN (ym + rest) (by omega)
        have hww := Ext.refl wr
        clear hcy hx0
        go_upto_region 7 with fail
        refine wp_region_tailU (fun X => Ext wr X) [13] (OrdU.of [0, 1, 2, 3, 4, 5, 6, 7, 8, 9, 10, 11, 12, 13]) (by kernel_rfl) (by kernel_rfl) (by kernel_rfl) (by kernel_rfl) (by kernel_rfl) (fun _ _ _ _ _ h => h) (by first | assumption | exact (Ext.refl _).drew | (refine Ext.drew ?_; assumption)) ?_
        repeat (first | (refine useq_skip rfl rfl (by assumption) ?_; simp only [Act.put, List.setIfInBounds_toArray, List.set_cons_zero, List.set_cons_succ]) | (refine useq_pure (v := ?_) rfl rfl rfl rfl (fun X => ?_) ?_; rotate_left; (focus (go_simp <;> with_reducible rfl)); simp only [Act.put, List.setIfInBounds_toArray, List.set_cons_zero, List.set_cons_succ]) | (refine useq_read (v := ?_) rfl rfl rfl rfl (fun X hX => ?_) ?_; rotate_left; (focus (go_simp <;> with_reducible rfl)); simp only [Act.put, List.setIfInBounds_toArray, List.set_cons_zero, List.set_cons_succ]))
        have hown1 := own_ext hown hww.drew
        have hfr1 := hfr.ext hww.drew
        clear hown hfr k12 k13 CY hww
        generalize wr.drew = wd at *
        obtain ⟨o0, g0⟩ := own_cell hown1 i (by omega)
        have f0 := hown1.frozenAt i
        have hss := hown1.stored i (.int .i64 ((ym + rest : Nat) : Int))
        rw [hms] at hss
        have hown' := hss.1
        have hfr' : Frm (fun b => (Value.slice Ao m c0).ownBlock = some b) w (wd.setCell ⟨g5, i, none⟩ (.int .i64 ((ym + rest : Nat) : Int))) := by
          rcases Hobx.out g5 rfl with h1 | h1
          · exact hfr1.cell (p := ⟨g5, i, none⟩) h1 _
          · have h2 : Frm (fun b => (Value.slice Ao m c0).ownBlock = some b ∨ b = g5) w (wd.setCell ⟨g5, i, none⟩ (.int .i64 ((ym + rest : Nat) : Int))) := (hfr1.mono fun _ _ h => Or.inl h).trans ((Frm.setCell wd g5 i _).mono fun _ _ h => Or.inr h)
            exact h2.mono fun b hb h => h.elim id (fun e => by omega)
        clear hss hms hown1
        have hi1 := hide (show i + 1 = m + (j + 1) by rw [hi.out]; omega)
        (refine useq_last rfl rfl rfl rfl (fun K hK => ?_))
        go_simp
        refine hK.out _ _ ?_
        refine useq_nil ?_
        first | rw [hw3] | skip
        go_wp2_with fail
        go_roundw
        case rel => exact ⟨i + 1, j + 1, by go_num, hi1, by omega, hown', hfr'⟩
        case measure => simp [intOf]; omega
      · obtain rfl : j = R.length := by omega
        have hfin := hide (show wr.ownsRow base 3 1 (.slice A5 (xs ++ brkD ss a p x l).length c5) (xs ++ brkD ss a p x l).length (nats (xs ++ brkD ss a p x l)) by
          rw [hDe.out, List.length_append, List.length_map, Hxsl.out, hZ.out]
          rw [List.take_length, List.drop_length, List.append_nil] at hown
          exact hown)
        have hlen : (xs ++ brkD ss a p x l).length = Z := by rw [hDe.out, List.length_append, List.length_map, Hxsl.out, hZ.out]
        have hres := hide (show RetBrk w base (.slice Ao m c0) (xs ++ brkD ss a p x l) (.returned (.slice A5 Z c5)) wr from ⟨A5, c5, by rw [hlen], hfin.out, hfr⟩)
        clear hlen
        have hiZi : ¬ (i : Int) < (Z : Int) := by have := hi.out; have := hZ.out; omega
        clear hown
        go_wp2
        go_ret
        exact hres.out
end Go.Proofs.YtplllipekeomiaaGreatDoor

namespace Go.Proofs.YtplllipekeomiaaGreatDoor
open Go Go.RowKit
set_option maxHeartbeats 2000000

theorem impl_PartsAlphabet {lo hi : Nat} {A : Option Addr} {n c : Nat} {ss : List Sys} {w : World} (h : SLAt w lo hi A n ss) :
    Calls Tryz.prog 76 #[.slice A n c] w fun e w' => e = .returned (.int .i64 (partsA ss)) ∧ Ext w w' := by
  have hn := h.len
  have hL := hide h.1
  have HS := hide (fun W (hW : Ext w W) => h.ext hW)
  clear h
  cases hp : areParts ss
  · have Hp := hide hp
    have hr := hide (show partsA ss = -1 by unfold partsA; rw [hp]; rfl)
    clear hp
    go_enter Tryz.func76, Tryz.ntmps76
    go_wp2_with (go_at_call 59; refine (impl_areParts (HS.out _ (Ext.refl _))).mono ?_; rw [Hp.out]; rintro e w1 ⟨rfl, hx⟩)
    go_ret
    exact ⟨ret_int (by rw [hr.out]), hx⟩
  · have Hp := hide hp
    have hr := hide (show partsA ss = (unionA ss : Int) by unfold partsA; rw [hp]; rfl)
    have hv := hide (show ∀ s ∈ ss, sysValid s = true by
      unfold areParts at hp
      simp only [Bool.and_eq_true, List.all_eq_true] at hp
      exact hp.2.2)
    clear hp
    go_enter Tryz.func76, Tryz.ntmps76
    go_wp2_with (go_at_call 59; refine (impl_areParts (HS.out _ (Ext.refl _))).mono ?_; rw [Hp.out]; rintro e w1 ⟨rfl, hx⟩)
    go_loopw [3, 5, 11] (fun v _ i wr => ∃ k u : Nat, k ≤ n ∧ i = .int .i64 k ∧ v = .int .i64 u ∧ u ≤ 63 ∧ Hid (u = unionA (ss.take k)) ∧ Ext w wr) (fun _ _ i _ => n - (intOf i).toNat)
    case atStart => exact ⟨0, 0, Nat.zero_le _, rfl, rfl, by omega, rfl, hx⟩
    case round =>
      clear hx
      obtain ⟨k, u, hk, rfl, rfl, hu, huA, hx⟩ := hrel
      by_cases hlt : k < n
      · obtain ⟨b, o, s, B, q, d, rfl, _, _, hs, c0, c1, c2, _⟩ := (HS.out wr hx).sys hlt
        obtain ⟨ha0, ha1⟩ := sysValid_al (hv.out s (List.mem_of_getElem? hs.out))
        obtain ⟨al, hal⟩ : ∃ al : Nat, Hid (s.al = al) := ⟨s.al.toNat, by unfold Hid; omega⟩
        rw [hal.out] at c0 ha0 ha1
        have Hu := hide (show unionA (ss.take (k + 1)) = u ||| al by rw [unionA_succ hs.out, hal.out, Int.toNat_natCast, huA.out])
        have Ho := hide (bits_or (a := u) (b := al) (by unfold Sm; omega) (by unfold Sm; omega))
        have hlt2 : u ||| al ≤ 63 := by have := Nat.or_lt_two_pow (n := 6) (x := u) (y := al) (by omega) (by omega); omega
        have ho := Ho.out
        clear huA
        go_wp2_with fail
        go_roundw
        case rel => exact ⟨k + 1, u ||| al, by omega, by go_num, by first | rfl | rw [Ho.out], hlt2, Hu.out.symm, by first | exact hx.alloc _ | exact (hx.alloc _).drew⟩
        case measure => simp [intOf]; omega
      · obtain rfl : n = k := by omega
        have hfin := hide (show partsA ss = (u : Int) by rw [hr.out, huA.out, List.take_of_length_le (by have := hL.out; omega)])
        go_wp2
        go_ret
        exact ⟨ret_int (by rw [hfin.out]), hx⟩
end Go.Proofs.YtplllipekeomiaaGreatDoor
