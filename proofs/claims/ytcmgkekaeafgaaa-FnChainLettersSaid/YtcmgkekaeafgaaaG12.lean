/- spec.l15Any, walked. | spec.l6Pair, walked. | spec.l15Pair and what the laws on simulation draw, walked. -/
import Derived.Test.YtcmgkekaeafgaaaG11
namespace Go.Proofs.Ytcmgkekaeafgaaa
open Go Go.RowKit
set_option maxHeartbeats 4000000

/-- The variable G holds the system s; the first block behind w0 is the result. -/
structure One (w0 W : World) (R G M : Nat) (s : Sys) (A : Option Addr) (n c : Nat) : Prop where
  z1 : Blk W w0.heap.size 35 #[.int .i64 0, .int .i64 0, .slice none 0 0]
  va : Blk W G 35 #[.int .i64 s.al, .int .i64 s.st, .slice A n c]
  ia : SysIn W R A n s
  rd : Rd W R M
  dr : Dr R w0 W
  hR : R < w0.heap.size
  hG : w0.heap.size + 1 ≤ G
section
variable {w0 W W' : World} {R G M N : Nat} {s : Sys} {A : Option Addr} {n c : Nat}
theorem One.ext (h : One w0 W R G M s A n c) (hx : Ext W W') : One w0 W' R G M s A n c :=
  ⟨h.z1.ext hx, h.va.ext hx, h.ia.ext hx, h.rd.ext hx, h.dr.ext hx, h.hR, h.hG⟩
theorem One.more (h : One w0 W R G M s A n c) (hM : M ≤ N) : One w0 W R G N s A n c := { h with rd := h.rd.more hM }
theorem One.drawn (h : One w0 W R G M s A n c) (hd : Dr R W W') (hr : Rd W' R N) : One w0 W' R G N s A n c :=
  ⟨h.z1.dr hd (by have := h.hR; omega), h.va.dr hd (by have := h.hR; have := h.hG; omega), h.ia.dr hd, hr, h.dr.trans hd, h.hR, h.hG⟩
theorem One.setA {s' : Sys} {A' : Option Addr} {n' c' : Nat} (h : One w0 W R G M s A n c) (hs : SysIn W R A' n' s') :
    One w0 (((W.setCell ⟨G, 0, none⟩ (.int .i64 s'.al)).setCell ⟨G, 1, none⟩ (.int .i64 s'.st)).setCell ⟨G, 2, none⟩ (.slice A' n' c')) R G M s' A' n' c' := by
  have hf := frm_fill W G (.int .i64 s'.al) (.int .i64 s'.st) (.slice A' n' c')
  have h1 := h.hR; have h2 := h.hG
  exact ⟨h.z1.frm hf (by omega), blk_fill h.va rfl _ _ _, hs.far h.va (by decide) hf, h.rd.frm hf (fun k a b => by omega),
    ((h.dr.setNew (p := ⟨G, 0, none⟩) (by dsimp only; omega) _).setNew (p := ⟨G, 1, none⟩) (by dsimp only; omega) _).setNew (p := ⟨G, 2, none⟩) (by dsimp only; omega) _, h1, h2⟩
theorem One.fin {L : Nat} (h : One w0 W R G M s A n c) (hn : n ≤ L ∧ n ≤ c) :
    RetA R M L w0 (.returned (.agg #[.int .i64 s.al, .int .i64 s.st, .slice A n c])) (((W.setCell ⟨w0.heap.size, 0, none⟩ (.int .i64 s.al)).setCell ⟨w0.heap.size, 1, none⟩ (.int .i64 s.st)).setCell ⟨w0.heap.size, 2, none⟩ (.slice A n c)) := by
  have h1 := h.hR
  have hf := frm_fill W w0.heap.size (.int .i64 s.al) (.int .i64 s.st) (.slice A n c)
  exact ⟨s, A, n, c, rfl, h.ia.far h.z1 (by decide) hf, hn, h.rd.frm hf (fun k a b => by omega),
    ((h.dr.setNew (p := ⟨w0.heap.size, 0, none⟩) (Nat.le_refl _) _).setNew (p := ⟨w0.heap.size, 1, none⟩) (Nat.le_refl _) _).setNew (p := ⟨w0.heap.size, 2, none⟩) (Nat.le_refl _) _⟩
end
end Go.Proofs.Ytcmgkekaeafgaaa

namespace Go.Proofs.Ytcmgkekaeafgaaa
open Go Go.RowKit
set_option maxHeartbeats 4000000

theorem reads_blk {W : World} {g n : Nat} {us : Array Value} {t : TypeId} (l : List Int) (h : Blk W g t us) (hu : us.toList = ints l) (hn : us.size = n) (h63 : n ≤ 1000) : Reads W g (g + 1) 1 (some ⟨g, 0, none⟩) n (ints l) :=
  ⟨by rw [← hu]; simpa using hn, by omega, fun _ => ⟨_, rfl, Nat.le_refl _, by simp, fun j u hj => by
    have := h.cell j
    rw [addr_lit, Nat.zero_add, this]
    rw [← hu] at hj
    simpa using hj⟩⟩
theorem num_blk {R M g n : Nat} {W : World} {us : Array Value} {t : TypeId} (l : List Int) (h : Blk W g t us) (hu : us.toList = ints l) (hn : us.size = n) (h0 : 0 < n) (h63 : n ≤ 1000) (hr : Rd W R M) (hM : M ≤ 1000000000) (hR : R < g) :
    Calls Try.prog 32 #[.pointer (some ⟨R, 0, none⟩), .slice (some ⟨g, 0, none⟩) n n] W (RetNum R M l W) :=
  l19Rd_num hr hM (reads_blk l h hu hn h63) hR h0
theorem l2Random_at {R M : Nat} {al st few : Int} {w : World} (h : Rd w R M) (hM : M ≤ 900000000) (ha : 0 ≤ al ∧ al < 64) (hp : 1 ≤ st ∧ st ≤ 16) :
    Calls Try.prog 31 #[.pointer (some ⟨R, 0, none⟩), .int .i64 al, .int .i64 st, .int .i64 few] w (RetG R (M + 20000) 20000 w) := by
  obtain ⟨a, rfl⟩ : ∃ a : Nat, al = a := ⟨al.toNat, by omega⟩
  obtain ⟨p, rfl⟩ : ∃ p : Nat, st = p := ⟨st.toNat, by omega⟩
  exact spec_l2Random h hM (by omega) (by omega) (by omega)
theorem edgeCells_take (es : List Edg) (k : Nat) : (edgeCells es).take (k * 3) = edgeCells (es.take k) := by
  induction es generalizing k with
  | nil => simp [edgeCells]
  | cons e r ih =>
    cases k with
    | zero => simp [edgeCells]
    | succ k =>
      rw [show (k + 1) * 3 = k * 3 + 1 + 1 + 1 by omega]
      simp only [edgeCells, List.take_succ_cons, ih]
/-- The first edges alone. -/
theorem SysIn.front {w : World} {R n k : Nat} {A : Option Addr} {al st : Int} {es : List Edg} (h : SysIn w R A n ⟨al, st, es⟩) (hk : k ≤ n) : SysIn w R A k ⟨al, st, es.take k⟩ := by
  have h1 := h.1
  simp only at h1
  refine ⟨by simp; omega, by have := h.2.1; omega, fun h0 => ?_⟩
  obtain ⟨g, o, cs, e, hR, hh, hc⟩ := h.2.2 (by omega)
  refine ⟨g, o, cs, e, hR, hh, fun j u hu => hc j u ?_⟩
  simp only at hu ⊢
  rw [← edgeCells_take] at hu
  rw [List.getElem?_take] at hu
  split at hu
  · exact hu
  · cases hu
theorem RetP.drew {R M L : Nat} {w W : World} {e : Ending} (h : RetP R M L w e W) : RetP R M L w e W.drew := by
  obtain ⟨s, A, n, c, t, B, m, d, h1, h2, h3, h4, h5, h6, h7⟩ := h
  exact ⟨s, A, n, c, t, B, m, d, h1, h2.ext (Ext.refl _).drew, h3.ext (Ext.refl _).drew, h4, h5, h6.ext (Ext.refl _).drew, h7.drew⟩
end Go.Proofs.Ytcmgkekaeafgaaa

namespace Go.Proofs.Ytcmgkekaeafgaaa
open Go Go.RowKit
set_option maxHeartbeats 4000000

/-- Two systems that were drawn, in new memory. -/
def RetD2 (w : World) (e : Ending) (w' : World) : Prop :=
  ∃ (s : Sys) (A : Option Addr) (n c : Nat) (t : Sys) (B : Option Addr) (m d : Nat), e = .returned (.tuple #[.agg #[.int .i64 s.al, .int .i64 s.st, .slice A n c], .agg #[.int .i64 t.al, .int .i64 t.st, .slice B m d]]) ∧
    SysAt w' w.heap.size w'.heap.size A n s ∧ SysAt w' w.heap.size w'.heap.size B m t ∧ (n ≤ 40000 ∧ n ≤ c) ∧ (m ≤ 40000 ∧ m ≤ d) ∧ Ext w w'
/-- A system that was drawn, in new memory. -/
def RetD1 (w : World) (e : Ending) (w' : World) : Prop :=
  ∃ (s : Sys) (A : Option Addr) (n c : Nat), e = .returned (.agg #[.int .i64 s.al, .int .i64 s.st, .slice A n c]) ∧ SysAt w' w.heap.size w'.heap.size A n s ∧ (n ≤ 40000 ∧ n ≤ c) ∧ Ext w w'
theorem Dr.new {R : Nat} {w w1 w2 : World} (h : Ext w w1) (hR : w.heap.size ≤ R) (hd : Dr R w1 w2) : Ext w w2 :=
  h.frm hd (fun k hk he => by omega)
theorem SysIn.new {R n : Nat} {w W : World} {A : Option Addr} {s : Sys} (h : SysIn W R A n s) (hR : w.heap.size ≤ R) : SysAt W w.heap.size W.heap.size A n s :=
  h.at_.more (by omega) (Nat.le_refl _)
theorem draw_one {R n c L : Nat} {w W : World} {A : Option Addr} {s : Sys} (hs : SysIn W R A n s) (hn : n ≤ L ∧ n ≤ c) (hL : L ≤ 40000) (hR : w.heap.size ≤ R) (hx : Ext w W) (hz : Blk W w.heap.size 35 #[.int .i64 0, .int .i64 0, .slice none 0 0]) :
    RetD1 w (.returned (.agg #[.int .i64 s.al, .int .i64 s.st, .slice A n c])) (((W.setCell ⟨w.heap.size, 0, none⟩ (.int .i64 s.al)).setCell ⟨w.heap.size, 1, none⟩ (.int .i64 s.st)).setCell ⟨w.heap.size, 2, none⟩ (.slice A n c)) := by
  have hf := frm_fill W w.heap.size (.int .i64 s.al) (.int .i64 s.st) (.slice A n c)
  exact ⟨s, A, n, c, rfl, (hs.far hz (by decide) hf).new hR, by omega, ((hx.setCell (p := ⟨w.heap.size, 0, none⟩) (Nat.le_refl _) _).setCell (p := ⟨w.heap.size, 1, none⟩) (Nat.le_refl _) _).setCell (p := ⟨w.heap.size, 2, none⟩) (Nat.le_refl _) _⟩
theorem draw_two {R n c m d : Nat} {w W : World} {A B : Option Addr} {s t : Sys} (hs : SysIn W R A n s) (ht : SysIn W R B m t) (hn : n ≤ 40000 ∧ n ≤ c) (hm : m ≤ 40000 ∧ m ≤ d) (hR : w.heap.size ≤ R) (hx : Ext w W)
    (hz : Blk W w.heap.size 35 #[.int .i64 0, .int .i64 0, .slice none 0 0]) (hz2 : Blk W (w.heap.size + 1) 35 #[.int .i64 0, .int .i64 0, .slice none 0 0]) :
    RetD2 w (.returned (.tuple #[.agg #[.int .i64 s.al, .int .i64 s.st, .slice A n c], .agg #[.int .i64 t.al, .int .i64 t.st, .slice B m d]])) ((((((W.setCell ⟨w.heap.size, 0, none⟩ (.int .i64 s.al)).setCell ⟨w.heap.size, 1, none⟩ (.int .i64 s.st)).setCell ⟨w.heap.size, 2, none⟩ (.slice A n c)).setCell ⟨w.heap.size + 1, 0, none⟩ (.int .i64 t.al)).setCell ⟨w.heap.size + 1, 1, none⟩ (.int .i64 t.st)).setCell ⟨w.heap.size + 1, 2, none⟩ (.slice B m d)) := by
  have hf := frm_fill W w.heap.size (.int .i64 s.al) (.int .i64 s.st) (.slice A n c)
  have a1 := hs.far hz (by decide) hf
  have a2 := ht.far hz (by decide) hf
  have a3 := hz2.frm hf (by omega)
  have hx2 := ((hx.setCell (p := ⟨w.heap.size, 0, none⟩) (Nat.le_refl _) (.int .i64 s.al)).setCell (p := ⟨w.heap.size, 1, none⟩) (Nat.le_refl _) (.int .i64 s.st)).setCell (p := ⟨w.heap.size, 2, none⟩) (Nat.le_refl _) (.slice A n c)
  generalize ((W.setCell ⟨w.heap.size, 0, none⟩ (.int .i64 s.al)).setCell ⟨w.heap.size, 1, none⟩ (.int .i64 s.st)).setCell ⟨w.heap.size, 2, none⟩ (.slice A n c) = W1 at *
  have hf := frm_fill W1 (w.heap.size + 1) (.int .i64 t.al) (.int .i64 t.st) (.slice B m d)
  exact ⟨s, A, n, c, t, B, m, d, rfl, (a1.far a3 (by decide) hf).new hR, (a2.far a3 (by decide) hf).new hR, hn, hm,
    ((hx2.setCell (p := ⟨w.heap.size + 1, 0, none⟩) (Nat.le_succ _) _).setCell (p := ⟨w.heap.size + 1, 1, none⟩) (Nat.le_succ _) _).setCell (p := ⟨w.heap.size + 1, 2, none⟩) (Nat.le_succ _) _⟩
end Go.Proofs.Ytcmgkekaeafgaaa
