/- impl.movesOf, walked. -/
import Derived.Test.YtdeopnjheeekcaaDoorAns
import Derived.Test.YtdeopnjheeekcaaDoorSys2
import Derived.StillTailTactics
namespace Go.Proofs.YtdeopnjheeekcaaDoor
open Go Go.RowKit
set_option maxHeartbeats 2000000

/-- The block b is a table of the moves of these edges. -/
def MovB (w : World) (b : Nat) (es : List Edg) : Prop := ∃ cs, Blk w b 68 cs ∧ ∀ i l : Nat, i < 16 → l < 6 → cs[i * 6 + l]? = some (.int .i64 (succ es i l : Nat))
theorem MovB.at_ {w : World} {b : Nat} {es : List Edg} (h : MovB w b es) : MovAt w b es := by
  obtain ⟨cs, hb, hc⟩ := h
  exact fun i l hi hl => by rw [hb.cell, hc i l hi hl]
theorem MovB.ext {w w' : World} {b : Nat} {es : List Edg} (h : MovB w b es) (hx : Ext w w') : MovB w' b es := by
  obtain ⟨cs, hb, hc⟩ := h
  exact ⟨cs, hb.ext hx, hc⟩

theorem zero_mov (w : World) : (zeroValue 68).run Tryd.prog w = .ok (.agg (Array.replicate 96 (.int .i64 0))) w := by kernel_rfl

theorem wrap_pow {t : Nat} (ht : t < 32) : wrap64 ((2 : Int) ^ t) = ((2 ^ t : Nat) : Int) := by
  have hp := (Sm.bit ht).lt
  have e : (2 : Int) ^ t = ((2 ^ t : Nat) : Int) := by simp
  rw [e]
  generalize (2 : Nat) ^ t = p at *
  unfold wrap64
  omega
theorem mov_store {cs : Array Value} {es : List Edg} {f g t i l : Nat} (hcs : ∀ i l : Nat, i < 16 → l < 6 → cs[i * 6 + l]? = some (.int .i64 (succ es i l : Nat))) (hs : Sm (succ es f g)) (ht : t < 16) (hf : f < 16) (hg : g < 6) (hi : i < 16) (hl : l < 6) :
    (cs.setIfInBounds (f * 6 + g) (.int .i64 (bits .or .i64 (succ es f g : Nat) (wrap64 (2 ^ t)))))[i * 6 + l]? = some (.int .i64 ((if (f : Int) = i ∧ (g : Int) = l then succ es i l ||| 2 ^ (t : Int).toNat else succ es i l : Nat))) := by
  rw [wrap_pow (by omega), bits_or hs (Sm.bit (by omega)), Array.getElem?_setIfInBounds]
  by_cases he : f * 6 + g = i * 6 + l
  · have e1 : f = i := by omega
    have e2 : g = l := by omega
    subst e1; subst e2
    have hsz : f * 6 + g < cs.size := by
      rcases Nat.lt_or_ge (f * 6 + g) cs.size with h1 | h1
      · exact h1
      · have := hcs f g hf hg
        rw [Array.getElem?_eq_none h1] at this
        cases this
    rw [if_pos rfl, if_pos hsz, if_pos ⟨rfl, rfl⟩]
    rfl
  · rw [if_neg he, hcs i l hi hl, if_neg]
    rintro ⟨h1, h2⟩
    exact he (by omega)

theorem impl_movesOf {lo hi : Nat} {A : Option Addr} {n c : Nat} {s : Sys} {w : World} (h : SysAt w lo hi A n s) (hf : Few 16 s.edges) :
    Calls Tryd.prog 40 #[.agg #[.int .i64 s.al, .int .i64 s.st, .slice A n c]] w fun e w' => ∃ b, e = .returned (.pointer (some ⟨b, 0, none⟩)) ∧ w.heap.size ≤ b ∧ MovB w' b s.edges ∧ Ext w w' := by
  have hn := h.2.len
  have hL := hide h.1
  have hR := fun W (hW : Ext w W) => h.2.ext hW
  have HR := hide hR
  clear hR
  have Hf := hide hf
  clear hf
  go_enter Tryd.func40, Tryd.ntmps40
  have hz := zero_mov
  generalize hzz : Array.replicate 96 (Value.int .i64 0) = zs at hz
  have Hz := hide hzz
  clear hzz
  go_wp2_with (simp only [hz])
  go_loopw [10] (fun i wr => ∃ k : Nat, k ≤ n ∧ i = .int .i64 k ∧ MovB wr (w.heap.size + 1) (s.edges.take k) ∧ Ext w wr) (fun i _ => n - (intOf i).toNat)
  case atStart => exact ⟨0, Nat.zero_le _, rfl, ⟨zs, by have := Blk.new (w.alloc (.cells #[.int .i64 s.al, .int .i64 s.st, .slice A n c] 29)) 68 zs; simpa using this, fun i l hi hl => by rw [← Hz.out, Array.getElem?_replicate, if_pos (by omega)]; rfl⟩, ((Ext.refl _).alloc _).alloc _⟩
  case round =>
    obtain ⟨k, hk, rfl, hmov, hext⟩ := hrel
    by_cases hlt : k < n
    · obtain ⟨b, o, x, rfl, hlo, hhi, hx, c0, c1, c2⟩ := (HR.out wr hext).edge hlt
      obtain ⟨⟨f0, f1⟩, ⟨g0, g1⟩, ⟨t0, t1⟩⟩ := Hf.out x (List.mem_of_getElem? hx.out)
      obtain ⟨f, hf⟩ : ∃ f : Nat, x.fr = f := ⟨x.fr.toNat, by omega⟩
      obtain ⟨g, hg⟩ : ∃ g : Nat, x.le = g := ⟨x.le.toNat, by omega⟩
      obtain ⟨t, ht⟩ : ∃ t : Nat, x.to = t := ⟨x.to.toNat, by omega⟩
      rw [hf] at c0 f0 f1
      rw [hg] at c1 g0 g1
      rw [ht] at c2 t0 t1
      have hf' : f < 16 := by omega
      have hg' : g < 6 := by omega
      have ht' : t < 16 := by omega
      clear f0 f1 g0 g1 t0 t1
      obtain ⟨cs, hblk, hcs⟩ := hmov
      have hs1 : Sm (succ (s.edges.take k) f g) := succ_sm (n := 16) (fun e he => Hf.out e (List.mem_of_mem_take he)) (by omega) f g
      go_wp2
      have hxq := (Ext.refl wr).alloc (.cells #[.int .i64 f, .int .i64 g, .int .i64 t] 53)
      have hbq := Blk.new wr 53 #[.int .i64 f, .int .i64 g, .int .i64 t]
      generalize hq : wr.alloc (.cells #[.int .i64 f, .int .i64 g, .int .i64 t] 53) = wq at *
      clear hq
      have hblq := hblk.ext hxq
      have hd : wq.cell? ⟨w.heap.size + 1, f * 6 + g, none⟩ = some (.int .i64 (succ (s.edges.take k) f g : Nat)) := by rw [hblq.cell, hcs f g hf' hg']
      have hfz := hblq.frozen (f * 6 + g)
      have q0 := hbq.cell 0
      have q1 := hbq.cell 1
      have q2 := hbq.cell 2
      go_still_tail 16, (by kernel_rfl)
      have f1 : (f : Int) < 16 := by omega
      have g1 : (g : Int) < 6 := by omega
      have t1 : (t : Int) ≤ 64 := by omega
      repeat (refine wpStill_step (fun K hK => ?_); go_simp; (try simp only [f1, g1, t1, if_true]); refine hK _ ?_; clear hK K)
      refine wpStill_nil ?_
      change wpList _ _ _ _ _ wq.drew
      have hd2 : wq.drew.cell? ⟨w.heap.size + 1, f * 6 + g, none⟩ = some (.int .i64 (succ (s.edges.take k) f g : Nat)) := hd
      have hfz2 : wq.drew.frozen? ⟨w.heap.size + 1, f * 6 + g, none⟩ = false := hfz
      have hblq2 : Blk wq.drew (w.heap.size + 1) 68 cs := hblq
      have hxq2 : Ext wr wq.drew := hxq.drew
      generalize wq.drew = w2 at *
      have Hu := hide (succ_snoc (s.edges.take k) x)
      have Htk := hide (show s.edges.take (k + 1) = s.edges.take k ++ [x] by rw [List.take_add_one, hx.out]; rfl)
      go_wp2
      go_roundw
      case rel => exact ⟨k + 1, by omega, by go_num, ⟨_, hblq2.set_ (f * 6 + g) _, fun i l hi hl => by
        rw [Htk.out, Hu.out, hf, hg, ht]
        exact mov_store hcs hs1 ht' hf' hg' hi hl⟩, (hext.trans hxq2).setCell (by dsimp only; omega) _⟩
      case measure => simp [intOf]; omega
    · obtain rfl : k = n := by omega
      go_wp2
      go_ret
      rw [hL.out, List.take_length] at hmov
      exact ⟨_, rfl, by omega, hmov, hext⟩
end Go.Proofs.YtdeopnjheeekcaaDoor
