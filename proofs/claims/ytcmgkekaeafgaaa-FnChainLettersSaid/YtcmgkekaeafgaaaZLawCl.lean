/- The law FnChainLetters, walked: it answers true, and leaves all old memory as it was. -/
import Derived.Test.YtcmgkekaeafgaaaG15
import Derived.Test.YtcmgkekaeafgaaaG17
import Derived.Test.YtcmgkekaeafgaaaG07
import Derived.Test.YtcmgkekaeafgaaaG04
namespace Go.Proofs.Ytcmgkekaeafgaaa
open Go Go.RowKit
set_option maxHeartbeats 4000000

/-- The letters of a chain, by bits. -/
theorem chain_bits (a b c p : Nat) :
    ((a ||| p) &&& (b ||| c)) &&& (b ||| c) = (a ||| p) &&& (b ||| c) ∧
    ((b ||| ((a ||| p) &&& (b ||| c))) &&& c) &&& c = (b ||| ((a ||| p) &&& (b ||| c))) &&& c ∧
    ((a ||| p) &&& (b ||| c)) &&& (a ||| p) = (a ||| p) &&& (b ||| c) ∧
    ((((0 ||| (0 &&& a)) ||| ((0 ||| a) &&& b)) ||| ((0 ||| a ||| b) &&& c)) &&& a) &&& ((a ||| p) &&& (b ||| c)) = (((0 ||| (0 &&& a)) ||| ((0 ||| a) &&& b)) ||| ((0 ||| a ||| b) &&& c)) &&& a := by
  refine ⟨?_, ?_, ?_, ?_⟩ <;> (apply Nat.eq_of_testBit_eq; intro i; simp only [Nat.testBit_or, Nat.testBit_and, Nat.zero_testBit]; cases a.testBit i <;> cases b.testBit i <;> cases c.testBit i <;> cases p.testBit i <;> rfl)
theorem le63 {a b : Nat} (ha : a ≤ 63) (hb : b ≤ 63) : a ||| b ≤ 63 := by have := Nat.or_lt_two_pow (n := 6) (x := a) (y := b) (by omega) (by omega); omega
theorem le63a {a b : Nat} (ha : a ≤ 63) : a &&& b ≤ 63 := Nat.le_trans Nat.and_le_left ha
theorem autValid_al {p : Aut} (h : autValid p = true) : 0 ≤ p.al ∧ p.al ≤ 63 := by
  simp only [autValid, Bool.and_eq_true, decide_eq_true_eq] at h
  exact h.1
/-- What the law leans on, at a chain's arguments. -/
structure ClF (x y z : Sys) (p : Aut) (a0 a1 a2 ap f s r q o sh : Nat) : Prop where
  al : x.al = a0 ∧ y.al = a1 ∧ z.al = a2 ∧ p.al = ap
  le : a0 ≤ 63 ∧ a1 ≤ 63 ∧ a2 ≤ 63 ∧ ap ≤ 63 ∧ f ≤ 63 ∧ s ≤ 63 ∧ r ≤ 63 ∧ sh ≤ 63
  c1 : chain1 [x, y, z] p = (f : Int)
  c2 : chain2 [x, y, z] p = (s : Int)
  pa : partsA [y, z] = (r : Int)
  sha : sharedA [x, y, z] = (sh : Int)
  e1 : bits .and .i64 (f : Int) (r : Int) = (f : Int)
  e2 : bits .and .i64 (s : Int) (a2 : Int) = (s : Int)
  e3 : bits .or .i64 (a0 : Int) (ap : Int) = (o : Int)
  e4 : bits .and .i64 (f : Int) (o : Int) = (f : Int)
  e5 : bits .and .i64 (sh : Int) (a0 : Int) = (q : Int)
  e6 : bits .and .i64 (q : Int) (f : Int) = (q : Int)
theorem clF {x y z : Sys} {p : Aut} (h : three [x, y, z] p = true) : ∃ a0 a1 a2 ap f s r q o sh : Nat, ClF x y z p a0 a1 a2 ap f s r q o sh := by
  have ht := h
  simp only [three, areParts, Bool.and_eq_true, decide_eq_true_eq, List.all_cons, List.all_nil, and_true] at h
  obtain ⟨-, ⟨-, -, hx, hy, hz⟩, hp⟩ := h
  have vx := sysValid_al hx
  have vy := sysValid_al hy
  have vz := sysValid_al hz
  have vp := autValid_al hp
  obtain ⟨a0, h0⟩ : ∃ a : Nat, x.al = a := ⟨x.al.toNat, by omega⟩
  obtain ⟨a1, h1⟩ : ∃ a : Nat, y.al = a := ⟨y.al.toNat, by omega⟩
  obtain ⟨a2, h2⟩ : ∃ a : Nat, z.al = a := ⟨z.al.toNat, by omega⟩
  obtain ⟨ap, h3⟩ : ∃ a : Nat, p.al = a := ⟨p.al.toNat, by omega⟩
  rw [h0] at vx; rw [h1] at vy; rw [h2] at vz; rw [h3] at vp
  have l0 : a0 ≤ 63 := by omega
  have l1 : a1 ≤ 63 := by omega
  have l2 : a2 ≤ 63 := by omega
  have lp : ap ≤ 63 := by omega
  have sm : ∀ {n : Nat}, n ≤ 63 → Sm n := fun h => by unfold Sm; omega
  obtain ⟨q1, q2, q3, q4⟩ := chain_bits a0 a1 a2 ap
  have lo := le63 l0 lp
  have lr := le63 l1 l2
  have lf : (a0 ||| ap) &&& (a1 ||| a2) ≤ 63 := le63a lo
  have ls : (a1 ||| ((a0 ||| ap) &&& (a1 ||| a2))) &&& a2 ≤ 63 := le63a (le63 l1 lf)
  have lsh : ((0 ||| (0 &&& a0)) ||| ((0 ||| a0) &&& a1)) ||| ((0 ||| a0 ||| a1) &&& a2) ≤ 63 := le63 (le63 (by simp) (le63a (by simpa using l0))) (le63a (le63 (by simpa using l0) l1))
  have c1 : chain1 [x, y, z] p = (((a0 ||| ap) &&& (a1 ||| a2) : Nat) : Int) := by
    unfold chain1
    rw [ht, if_pos rfl]
    dsimp only
    rw [h0, h1, h2, h3, bits_or (sm l0) (sm lp), bits_or (sm l1) (sm l2), bits_and (sm lo) (sm lr)]
  refine ⟨a0, a1, a2, ap, _, _, _, (((0 ||| (0 &&& a0)) ||| ((0 ||| a0) &&& a1)) ||| ((0 ||| a0 ||| a1) &&& a2)) &&& a0, a0 ||| ap, _, ⟨⟨h0, h1, h2, h3⟩, ⟨l0, l1, l2, lp, lf, ls, lr, lsh⟩, c1, ?_, ?_, ?_, ?_, ?_, bits_or (sm l0) (sm lp), ?_, bits_and (sm lsh) (sm l0), ?_⟩⟩
  · unfold chain2
    rw [ht, if_pos rfl]
    dsimp only
    rw [c1, h1, h2, bits_or (sm l1) (sm lf), bits_and (sm (le63 l1 lf)) (sm l2)]
  · have : areParts [y, z] = true := by simp [areParts, hy, hz]
    unfold partsA
    rw [this, if_pos rfl]
    simp [unionA, h1, h2]
  · have : areParts [x, y, z] = true := by simp [areParts, hx, hy, hz]
    unfold sharedA
    rw [this, if_pos rfl]
    simp only [shF, List.foldl_cons, List.foldl_nil, h0, h1, h2, Int.toNat_natCast]
  · rw [bits_and (sm lf) (sm lr), q1]
  · rw [bits_and (sm ls) (sm l2), q2]
  · rw [bits_and (sm lf) (sm lo), q3]
  · rw [bits_and (sm (le63a lsh)) (sm lf), q4]
set_option maxRecDepth 100000 in
theorem law_ChainLettersP {A : Option Addr} {n c : Nat} {w : World} (h : Bytes w A n) (hn : n ≤ 9223372036854775807) (hc : n ≤ c) (hc2 : c ≤ 9223372036854775807) :
    Calls Try.prog 3 #[.slice A n c] w fun e w' => e = .returned (.bool true) ∧ Ext w w' := by
  have Hh := hide h
  clear h
  by_cases hbig : 1048576 < n
  · have hbig' : (1048576 : Int) < (n : Int) := by omega
    go_enter Try.func3, Try.ntmps3
    go_wp2
    go_ret
    exact ⟨rfl, Ext.refl _⟩
  have hbig' : (n : Int) ≤ 1048576 := by omega
  clear hbig
  go_enter Try.func3, Try.ntmps3
  go_wp2_with fail
  refine (spec_DrawChainLetters Hh.out hn hc hc2).mono ?_
  rintro e w1 ⟨ss, k, g, cc, p, B, m, d, B', m', d', hk, hk4, hkc, rfl, hs1, hp1, -, hx1⟩
  have hx2 := (Ext.refl w1).alloc (.cells #[.int .i64 p.al, .slice B m d, .slice B' m' d'] 27)
  have b1 := Blk.new w1 27 #[.int .i64 p.al, .slice B m d, .slice B' m' d']
  have hw2 := hx1.trans hx2
  have HS := hide (fun W (hW : Ext w1 W) => hs1.ext hW)
  have HP := hide (fun W (hW : Ext w1 W) => hp1.ext hW)
  have k1 := b1.cell
  clear hs1 hp1 Hh
  cases hT : three ss p
  · have Hc1 := hide (show chain1 ss p = -1 by unfold chain1; rw [hT]; rfl)
    have Hc2 := hide (show chain2 ss p = -1 by unfold chain2; rw [hT]; rfl)
    clear hT
    go_wp2_with fail
    generalize w1.alloc (.cells #[.int .i64 p.al, .slice B m d, .slice B' m' d'] 27) = w2 at *
    refine (impl_ChainLetters (HS.out _ hx2) (HP.out _ hx2)).mono ?_
    rw [Hc1.out, Hc2.out]
    rintro e w3 ⟨rfl, hx3⟩
    clear k1
    have k1 := (b1.ext hx3).cell
    go_wp2_with fail
    refine (spec_ChainLetters (HS.out _ (hx2.trans hx3)) (HP.out _ (hx2.trans hx3))).mono ?_
    rw [Hc1.out, Hc2.out]
    rintro e w4 ⟨rfl, hx4⟩
    go_wp2_with fail
    go_ret
    exact ⟨rfl, (hw2.trans hx3).trans hx4⟩
  · obtain ⟨x, y, z, rfl⟩ := three_list hT
    obtain ⟨a0, a1, a2, ap, f, s, r, q, o, sh, F⟩ := clF hT
    obtain ⟨⟨h0, h1, h2, h3⟩, ⟨l0, l1, l2, lp, lf, ls, lr, lsh⟩, c1, c2, pa, sha, e1, e2, e3, e4, e5, e6⟩ := F
    rw [← h3] at e3
    have C1 := hide c1
    have C2 := hide c2
    have PA := hide pa
    have SHA := hide sha
    have E := hide (And.intro e1 (And.intro e2 (And.intro e3 (And.intro e4 (And.intro e5 e6)))))
    have hk3 : k = 3 := hk.out
    subst hk3
    have X : ∀ W, Ext w1 W → W.cell? ⟨g, 0, none⟩ = some (.int .i64 a0) ∧ W.cell? ⟨g, 6, none⟩ = some (.int .i64 a2) := fun W hW => by
      obtain ⟨_, _, _, c0, _⟩ := (HS.out W hW).sys2 (k := 0) (s := x) rfl
      obtain ⟨_, _, _, c6, _⟩ := (HS.out W hW).sys2 (k := 2) (s := z) rfl
      rw [h0] at c0; rw [h2] at c6
      exact ⟨by simpa using c0, by simpa using c6⟩
    have HX := hide X
    clear c1 c2 pa sha e1 e2 e3 e4 e5 e6 X hT hk h0 h1 h2 h3
    go_wp2_with fail
    generalize w1.alloc (.cells #[.int .i64 p.al, .slice B m d, .slice B' m' d'] 27) = w2 at *
    refine (impl_ChainLetters (HS.out _ hx2) (HP.out _ hx2)).mono ?_
    rw [C1.out, C2.out]
    rintro e w3 ⟨rfl, hx3⟩
    clear k1
    have k1 := (b1.ext hx3).cell
    have hw3 := hx2.trans hx3
    go_wp2_with fail
    refine (spec_ChainLetters (HS.out _ hw3) (HP.out _ hw3)).mono ?_
    rw [C1.out, C2.out]
    rintro e w4 ⟨rfl, hx4⟩
    clear k1
    have hw4 := hw3.trans hx4
    have hkc' : (3 : Int) ≤ (cc : Int) := by omega
    have hf0 : ¬ ((f : Int) < 0) := by omega
    go_wp2_with fail
    refine (impl_PartsAlphabet (SLAt.tail (HS.out _ hw4))).mono ?_
    rw [show ([x, y, z] : List Sys).tail = [y, z] from rfl, PA.out]
    rintro e w5 ⟨rfl, hx5⟩
    have hw5 := hw4.trans hx5
    have K1 : ∀ W, Ext w5 W → ∀ q, W.cell? ⟨w1.heap.size, q, none⟩ = #[Value.int .i64 p.al, .slice B m d, .slice B' m' d'][q]? := fun W hW => (b1.ext ((hx3.trans hx4).trans (hx5.trans hW))).cell
    have X0 : ∀ W, Ext w5 W → W.cell? ⟨g, 0, none⟩ = some (.int .i64 a0) := fun W hW => (HX.out W (hw5.trans hW)).1
    have X6 : ∀ W, Ext w5 W → W.cell? ⟨g, 6, none⟩ = some (.int .i64 a2) := fun W hW => (HX.out W (hw5.trans hW)).2
    obtain ⟨e1, e2, e3, e4, e5, e6⟩ := E.out
    clear E
    go_wp2_with fail
    refine wp_region_tailU (fun X => Ext w5 X) [] (OrdU.of [0, 1, 2, 3, 4, 5, 6, 7, 8, 9, 10, 11, 12, 13, 14, 15, 16, 17, 18, 19, 20, 21, 22, 23, 24, 25, 26, 27, 28, 29, 30, 31, 32, 33, 34, 36, 37, 38, 39, 41, 43, 45, 46, 47, 48, 35, 40, 42, 44, 49, 50, 51, 52]) (by kernel_rfl) (by kernel_rfl) (by kernel_rfl) (by kernel_rfl) (by kernel_rfl) (fun _ _ _ _ _ h => h) (by first | assumption | exact (Ext.refl _).drew | (refine Ext.drew ?_; assumption)) ?_
    repeat (first | (refine useq_skip rfl rfl (by assumption) ?_; simp only [Act.put, List.setIfInBounds_toArray, List.set_cons_zero, List.set_cons_succ]) | (refine useq_pure (v := ?_) rfl rfl rfl rfl (fun X => ?_) ?_; rotate_left; (focus (go_simp <;> with_reducible rfl)); simp only [Act.put, List.setIfInBounds_toArray, List.set_cons_zero, List.set_cons_succ]) | (refine useq_read (v := ?_) rfl rfl rfl rfl (fun X hX => ?_) ?_; rotate_left; (focus (go_simp <;> with_reducible rfl)); simp only [Act.put, List.setIfInBounds_toArray, List.set_cons_zero, List.set_cons_succ]))
    (refine useq_step rfl rfl rfl (fun K hK => ?_); go_simp)
    refine (impl_SharedLetters (HS.out _ hw5.drew)).mono ?_
    rw [SHA.out]
    rintro e w6 ⟨rfl, hx6⟩
    have hx56 : Ext w5 w6 := (Ext.refl w5).drew.trans hx6
    refine hK.out _ _ hx56 ?_
    (try simp only [Act.put, List.setIfInBounds_toArray, List.set_cons_zero, List.set_cons_succ])
    repeat (first | (refine useq_skip rfl rfl (by assumption) ?_; simp only [Act.put, List.setIfInBounds_toArray, List.set_cons_zero, List.set_cons_succ]) | (refine useq_pure (v := ?_) rfl rfl rfl rfl (fun X => ?_) ?_; rotate_left; (focus (go_simp <;> with_reducible rfl)); simp only [Act.put, List.setIfInBounds_toArray, List.set_cons_zero, List.set_cons_succ]) | (refine useq_read (v := ?_) rfl rfl rfl rfl (fun X hX => ?_) ?_; rotate_left; (focus (go_simp <;> with_reducible rfl)); simp only [Act.put, List.setIfInBounds_toArray, List.set_cons_zero, List.set_cons_succ]))
    (refine useq_step rfl rfl rfl (fun K hK => ?_); go_simp)
    refine (impl_SharedLetters (HS.out _ (hw5.trans hx56))).mono ?_
    rw [SHA.out]
    rintro e w7 ⟨rfl, hx7⟩
    have hx57 : Ext w5 w7 := hx56.trans hx7
    refine hK.out _ _ hx57 ?_
    (try simp only [Act.put, List.setIfInBounds_toArray, List.set_cons_zero, List.set_cons_succ])
    repeat (first | (refine useq_skip rfl rfl (by assumption) ?_; simp only [Act.put, List.setIfInBounds_toArray, List.set_cons_zero, List.set_cons_succ]) | (refine useq_pure (v := ?_) rfl rfl rfl rfl (fun X => ?_) ?_; rotate_left; (focus (go_simp <;> with_reducible rfl)); simp only [Act.put, List.setIfInBounds_toArray, List.set_cons_zero, List.set_cons_succ]) | (refine useq_read (v := ?_) rfl rfl rfl rfl (fun X hX => ?_) ?_; rotate_left; (focus (go_simp <;> with_reducible rfl)); simp only [Act.put, List.setIfInBounds_toArray, List.set_cons_zero, List.set_cons_succ]))
    refine useq_nil ?_
    go_wp2_with fail
    go_ret
    exact ⟨rfl, hx1.trans (hw5.trans hx57)⟩
end Go.Proofs.Ytcmgkekaeafgaaa
