/- A system that grows behind an older variable. -/
import Derived.Test.YtcmgkekaeafgaaaDoorG02
namespace Go.Proofs.YtcmgkekaeafgaaaDoor
open Go Go.RowKit

theorem Frm.grownG {T : Nat → Prop} {w W W' : World} {row : Option Nat} (h : Frm T w W) (hg : W.grownBy W' row) (hr : ∀ k, row = some k → w.heap.size ≤ k) : Frm T w W' :=
  ⟨hg.os.trans h.os, hg.tape.trans h.tape, hg.output.trans h.output, Nat.le_trans h.size hg.size, fun k hk hn => (hg.block k (Nat.lt_of_lt_of_le hk h.size) (fun e => by have := hr k e.symm; omega)).trans (h.block k hk hn)⟩
/-- The variable G, which is older, holds a system that grows in memory newer than w0. -/
structure Gr2 (w0 W : World) (G : Nat) (al st : Int) (v : Value) (es : List Edg) : Prop where
  blk : Blk W G 25 #[.int .i64 al, .int .i64 st, v]
  own : W.ownsRow w0.heap.size 65 3 v es.length (edgeCells es)
  fr : Frm (fun k => k = G) w0 W
  hG : G < w0.heap.size
theorem Gr2.ext_ {w0 W W' : World} {G : Nat} {al st : Int} {v : Value} {es : List Edg} (h : Gr2 w0 W G al st v es) (hb : Ext W W') : Gr2 w0 W' G al st v es := ⟨h.blk.ext hb, own_ext h.own hb, h.fr.ext hb, h.hG⟩
theorem Gr2.push {w0 W W' : World} {G : Nat} {al st : Int} {v : Value} {es : List Edg} {g cap : Nat} {e : Edg} (h : Gr2 w0 W G al st v es) (hown : W'.ownsRow w0.heap.size 65 3 (.slice (some ⟨g, 0, none⟩) (es.length + 1) cap) (es.length + 1) (edgeCells es ++ [.int .i64 e.fr, .int .i64 e.le, .int .i64 e.to]))
    (hg : W.grownBy W' v.ownBlock) :
    Hid (W'.cell? ⟨G, 2, none⟩ = some v) ∧ W'.frozen? ⟨G, 2, none⟩ = false ∧ Gr2 w0 (W'.setCell ⟨G, 2, none⟩ (.slice (some ⟨g, 0, none⟩) (es.length + 1) cap)) G al st (.slice (some ⟨g, 0, none⟩) (es.length + 1) cap) (es ++ [e]) := by
  have hB : Blk W' G 25 #[.int .i64 al, .int .i64 st, v] := (hg.block G h.blk.lt (fun e => by have := (h.own.lt G e.symm).1; have := h.hG; omega)).trans h.blk
  have hgG := (hown.lt g rfl).1
  have hG := h.hG
  have hf : Frm (fun k => k = G) w0 W' := h.fr.grownG hg (fun k hk => (h.own.lt k hk).1)
  refine ⟨hB.cell 2, hB.frozen 2, ⟨by simpa using hB.set_ 2 _, ?_, hf.cell rfl _, hG⟩⟩
  have := own_frm hown (Frm.setCell W' G 2 (.slice (some ⟨g, 0, none⟩) (es.length + 1) cap)) (fun b hv hS => by
    have : g = b := by simpa [Value.ownBlock] using hv
    omega)
  rw [edgeCells_append]
  simpa [edgeCells] using this
end Go.Proofs.YtcmgkekaeafgaaaDoor
