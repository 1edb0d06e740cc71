/- Slices of systems are compared. -/
import Derived.Test.YtdeopnjheeekcabSL
namespace Go.Proofs.Ytdeopnjheeekcab
open Go Go.RowKit
set_option maxHeartbeats 1000000

theorem eqSystemS_any {lo hi lo' hi' : Nat} {A : Option Addr} {n c : Nat} {B : Option Addr} {m d : Nat} {l l' : List Sys} {w : World} (h : SLAt w lo hi A n l) (h' : SLAt w lo' hi' B m l') (hll : l = l') :
    Calls Try.prog 10 #[.slice A n c, .slice B m d] w fun e w' => e = .returned (.bool true) ∧ Ext w w' := by
  subst hll
  have hn := h.len
  have hm := h'.len
  obtain rfl : n = m := by rw [h.1, h'.1]
  go_enter Try.func10, Try.ntmps10
  go_wp2
  go_loopw [5] (fun i wr => ∃ k : Nat, k ≤ n ∧ i = .int .i64 k ∧ Ext w wr) (fun i _ => n - (intOf i).toNat)
  case atStart => exact ⟨0, Nat.zero_le _, rfl, Ext.refl _⟩
  case round =>
    obtain ⟨k, hk, rfl, hext⟩ := hrel
    by_cases hlt : k < n
    · obtain ⟨b, o, x, q, r, z, rfl, _, _, hx, c0, c1, c2, hsx⟩ := (h.ext hext).sys hlt
      obtain ⟨b', o', y, q', r', z', rfl, _, _, hy, d0, d1, d2, hsy⟩ := (h'.ext hext).sys hlt
      obtain rfl : x = y := by have hx := hx.out; have hy := hy.out; rw [hx] at hy; exact Option.some.inj hy
      have e0 : ∀ W, Ext wr W → W.cell? ⟨b, o + k * 3, none⟩ = some (.int .i64 x.al) := fun W hW => hW.cell_some c0
      have e1 : ∀ W, Ext wr W → W.cell? ⟨b, o + k * 3 + 1, none⟩ = some (.int .i64 x.st) := fun W hW => hW.cell_some c1
      have e2 : ∀ W, Ext wr W → W.cell? ⟨b, o + k * 3 + 2, none⟩ = some (.slice q r z) := fun W hW => hW.cell_some c2
      have g0 : ∀ W, Ext wr W → W.cell? ⟨b', o' + k * 3, none⟩ = some (.int .i64 x.al) := fun W hW => hW.cell_some d0
      have g1 : ∀ W, Ext wr W → W.cell? ⟨b', o' + k * 3 + 1, none⟩ = some (.int .i64 x.st) := fun W hW => hW.cell_some d1
      have g2 : ∀ W, Ext wr W → W.cell? ⟨b', o' + k * 3 + 2, none⟩ = some (.slice q' r' z') := fun W hW => hW.cell_some d2
      clear c0 c1 c2 d0 d1 d2
      have hwr := Ext.refl wr
      go_wp2_with fail
      go_region_held3 (fun W => Ext wr W) (first | assumption | (refine Ext.drew ?_; assumption) | (refine Ext.trans ?_ (by assumption); assumption) | (refine Ext.trans ?_ (by assumption); refine Ext.drew ?_; assumption)) ((go_at_call 21; refine (eqSystem_any (hsx.ext ?_) (hsy.ext ?_)).mono ?_; assumption; assumption; rw [sysEq_self]; rintro e w3 ⟨rfl, hext3⟩))
      go_wp2
      go_roundw
      case rel => exact ⟨k + 1, by omega, by go_num, hext.trans (by assumption)⟩
      case measure => simp [intOf]; omega
    · obtain rfl : k = n := by omega
      go_wp2
      go_ret
      exact ⟨rfl, hext⟩
end Go.Proofs.Ytdeopnjheeekcab
