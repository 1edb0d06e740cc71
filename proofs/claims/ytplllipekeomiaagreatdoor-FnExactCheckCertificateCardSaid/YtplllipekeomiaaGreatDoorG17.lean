/- Plain: the first violation as a value; the memory of small products. | The reference's ViolationUnder, KeepsUnder, PartsViolation, PartsKeep, KeepsProperty, walked. | The reference's KeepsUnder, PartsViolation, PartsKeep, KeepsProperty, walked. -/
import Derived.Test.YtplllipekeomiaaGreatDoorG14
import Derived.Test.YtplllipekeomiaaGreatDoorG16
import Derived.Test.YtplllipekeomiaaGreatDoorG05
import Derived.Test.YtplllipekeomiaaGreatDoorG07
import Derived.OwnWalk
namespace Go.Proofs.YtplllipekeomiaaGreatDoor
open Go Go.RowKit
set_option maxHeartbeats 2000000

noncomputable def lostB (d : Nat → Nat → List Nat) (start : List Nat) (goal : Nat → Bool) (L : List Nat) : Bool := @decide (Lost d start goal L) (Classical.propDecidable _)
noncomputable def firstW (d : Nat → Nat → List Nat) (start : List Nat) (goal : Nat → Bool) (L : List Nat) : List Nat := @dite _ (∃ v, Found d start goal L v) (Classical.propDecidable _) (fun h => Classical.choose h) (fun _ => [])
section
variable {d : Nat → Nat → List Nat} {start L : List Nat} {goal : Nat → Bool}
theorem found_uniq (h6 : ∀ l ∈ L, l < 6) {u v : List Nat} (hu : Found d start goal L u) (hv : Found d start goal L v) : u = v := by
  obtain ⟨u1, ⟨x, u2, u3⟩, u4⟩ := hu
  obtain ⟨v1, ⟨y, v2, v3⟩, v4⟩ := hv
  have h1 : ¬ wval u < wval v := fun h => by
    have := v4 u u1 h x u2
    rw [u3] at this; cases this
  have h2 : ¬ wval v < wval u := fun h => by
    have := u4 v v1 h y v2
    rw [v3] at this; cases this
  exact wval_inj _ u v (Nat.le_refl _) (fun l hl => h6 l (u1 l hl)) (fun l hl => h6 l (v1 l hl)) (by omega)
theorem found_first (h6 : ∀ l ∈ L, l < 6) {v : List Nat} (h : Found d start goal L v) : firstW d start goal L = v ∧ lostB d start goal L = false := by
  constructor
  · unfold firstW
    rw [@dif_pos _ (Classical.propDecidable _) ⟨v, h⟩]
    exact found_uniq h6 (Classical.choose_spec (⟨v, h⟩ : ∃ v, Found d start goal L v)) h
  · refine @decide_eq_false _ (Classical.propDecidable _) fun hl => ?_
    obtain ⟨h1, ⟨x, h2, h3⟩, _⟩ := h
    have := hl v h1 x h2
    rw [h3] at this; cases this
theorem lost_first (h : Lost d start goal L) : firstW d start goal L = [] ∧ lostB d start goal L = true := by
  constructor
  · unfold firstW
    rw [@dif_neg _ (Classical.propDecidable _)]
    rintro ⟨v, h1, ⟨x, h2, h3⟩, _⟩
    have := h v h1 x h2
    rw [h3] at this; cases this
  · exact @decide_eq_true _ (Classical.propDecidable _) h
theorem RetPath.first {w : World} {e : Ending} {w' : World} (h : RetPath w d start goal L e w') (h6 : ∀ l ∈ L, l < 6) : e = .returned (.tuple #[.string (wstr (firstW d start goal L)), .bool (!lostB d start goal L)]) ∧ Ext w w' := by
  obtain ⟨hx, ⟨v, rfl, hF⟩ | ⟨rfl, hL⟩⟩ := h
  · obtain ⟨h1, h2⟩ := found_first h6 hF
    rw [h1, h2]
    exact ⟨rfl, hx⟩
  · obtain ⟨h1, h2⟩ := lost_first hL
    rw [h1, h2]
    exact ⟨rfl, hx⟩
end
/-- The first word of systems under an assumption that breaks a property, and whether there is one. -/
noncomputable def vioW (ss : List Sys) (a p : Aut) : ByteArray := wstr (firstW (brkD ss a p) [0] (brkG a p) (letters (unionA ss ||| a.al.toNat) 6))
noncomputable def vioB (ss : List Sys) (a p : Aut) : Bool := !lostB (brkD ss a p) [0] (brkG a p) (letters (unionA ss ||| a.al.toNat) 6)
theorem letters_lt6 (a : Nat) : ∀ l ∈ letters a 6, l < 6 := fun _ hl => (letters_mem.1 hl).1
/-- The same without an assumption. -/
theorem brkD_free (ss : List Sys) (p : Aut) : brkD ss free p = pnx (mems ss [p]) := by
  rw [brkD_pnx]
  funext x l
  exact pnx_free ss p x l
theorem brkG_free (p : Aut) (x : Nat) : brkG free p x = !accB p (x % p.next.length) := by
  unfold brkG
  rw [show free.next.length = 1 from rfl, Nat.mod_one]
  rfl

/-- One system in a row of its own. -/
theorem sl_one {w : World} {g lo hi n c : Nat} {B : Option Addr} {s : Sys} (hb : Blk w g 54 #[.int .i64 s.al, .int .i64 s.st, .slice B n c]) (h : SysAt w lo hi B n s) : ∃ lo hi, SLAt w lo hi (some ⟨g, 0, none⟩) 1 [s] := by
  refine ⟨0, hi + g + 1, rfl, [.int .i64 s.al, .int .i64 s.st, .slice B n c], ⟨rfl, by omega, fun _ => ⟨_, rfl, Nat.zero_le _, by dsimp only; omega, fun j u hu => ?_⟩⟩, fun k t ht => ?_⟩
  · rw [addr_lit, Nat.zero_add, hb.cell]
    simpa using hu
  · cases k with
    | zero =>
      simp at ht; subst ht
      exact ⟨B, n, c, rfl, rfl, rfl, h.1, h.2.more (Nat.zero_le _) (by omega)⟩
    | succ k => simp at ht
/-- One automaton, two automata in a row of their own. -/
theorem al_one {w : World} {g lo hi n c n' c' : Nat} {B B' : Option Addr} {a : Aut} (hb : Blk w g 35 #[.int .i64 a.al, .slice B n c, .slice B' n' c']) (h : AutAt w lo hi B n B' n' a) : ∃ lo hi, ALAt w lo hi (some ⟨g, 0, none⟩) 1 [a] := by
  refine ⟨0, hi + g + 1, rfl, [.int .i64 a.al, .slice B n c, .slice B' n' c'], ⟨rfl, by omega, fun _ => ⟨_, rfl, Nat.zero_le _, by dsimp only; omega, fun j u hu => ?_⟩⟩, fun k t ht => ?_⟩
  · rw [addr_lit, Nat.zero_add, hb.cell]
    simpa using hu
  · cases k with
    | zero =>
      simp at ht; subst ht
      exact ⟨B, n, c, B', n', c', rfl, rfl, rfl, h.more (Nat.zero_le _) (by omega)⟩
    | succ k => simp at ht
theorem al_two {w : World} {g lo hi n c n' c' lo2 hi2 m d m' d' : Nat} {B B' C C' : Option Addr} {a p : Aut} (hb : Blk w g 35 #[.int .i64 a.al, .slice B n c, .slice B' n' c', .int .i64 p.al, .slice C m d, .slice C' m' d']) (h : AutAt w lo hi B n B' n' a) (h' : AutAt w lo2 hi2 C m C' m' p) : ∃ lo hi, ALAt w lo hi (some ⟨g, 0, none⟩) 2 [a, p] := by
  refine ⟨0, hi + hi2 + g + 1, rfl, [.int .i64 a.al, .slice B n c, .slice B' n' c', .int .i64 p.al, .slice C m d, .slice C' m' d'], ⟨rfl, by omega, fun _ => ⟨_, rfl, Nat.zero_le _, by dsimp only; omega, fun j u hu => ?_⟩⟩, fun k t ht => ?_⟩
  · rw [addr_lit, Nat.zero_add, hb.cell]
    simpa using hu
  · match k with
    | 0 =>
      simp at ht; subst ht
      exact ⟨B, n, c, B', n', c', rfl, rfl, rfl, h.more (Nat.zero_le _) (by omega)⟩
    | 1 =>
      simp at ht; subst ht
      exact ⟨C, m, d, C', m', d', rfl, rfl, rfl, h'.more (Nat.zero_le _) (by omega)⟩
    | k + 2 => simp at ht
theorem zeros_row {w : World} {base g n : Nat} (h : w.ownsRow base 3 1 (.slice (some ⟨g, 0, none⟩) n n) n (nats (List.replicate n 0))) : Lst NatP w base w.heap.size (some ⟨g, 0, none⟩) (List.replicate n 0) := by
  have hh := Lst.own_nats (xs := List.replicate n 0) (W := w) (base := base) (c := n) (A := some ⟨g, 0, none⟩) (by rw [List.length_replicate]; exact h)
  exact hh
theorem zeros_blk {w : World} {g n : Nat} {cs : Array Value} (h : Blk w g 3 cs) (hc : cs.toList = nats (List.replicate n 0)) (hn : n ≤ 100) : Lst NatP w g (g + 1) (some ⟨g, 0, none⟩) (List.replicate n 0) := by
  refine Lst.of_nats ⟨by simp [nats], by simp; omega, fun _ => ⟨_, rfl, Nat.le_refl _, by simp, fun j u hu => ?_⟩⟩
  rw [addr_lit, Nat.zero_add, h.cell]
  rw [← hc] at hu
  simpa using hu
/-- Valid parts. -/
theorem parts_valid {ss : List Sys} (h : areParts ss = true) : (1 ≤ ss.length ∧ ss.length ≤ 3) ∧ ∀ s ∈ ss, sysValid s = true := by
  unfold areParts at h
  simp only [Bool.and_eq_true, decide_eq_true_eq, List.all_eq_true] at h
  exact ⟨⟨h.1, h.2.1⟩, h.2.2⟩
theorem union_le {ss : List Sys} (h : ∀ s ∈ ss, sysValid s = true) : unionA ss ≤ 63 := by
  have : ∀ n, unionA (ss.take n) ≤ 63 := by
    intro n
    induction n with
    | zero => simp [unionA]
    | succ n ih =>
      rcases Nat.lt_or_ge n ss.length with h1 | h1
      · rw [unionA_succ (List.getElem?_eq_getElem h1)]
        have := sysValid_al (h _ (List.getElem_mem h1))
        have := Nat.or_lt_two_pow (n := 6) (x := unionA (ss.take n)) (y := ss[n].al.toNat) (by omega) (by omega)
        omega
      · rw [List.take_of_length_le (by omega)]
        rw [List.take_of_length_le h1] at ih
        exact ih
  have h2 := this ss.length
  rwa [List.take_length] at h2
/-- The search of the reference, under an assumption. -/
theorem first_under {PA AA SA : Option Addr} {pn pc ac sc lo hi : Nat} {G : Int} {L : Nat} {ss : List Sys} {a p : Aut} {w : World} (h : NetAt w PA pn AA 2 ss [a, p]) (hap : areParts ss = true) (hv : autValid a = true) (hp : autValid p = true) (hS : Lst NatP w lo hi SA (List.replicate (pn + 2) 0)) (hL : L = unionA ss ||| a.al.toNat) :
    Calls Tryz.prog 84 #[.agg #[.slice PA pn pc, .slice AA 2 ac, .slice SA (pn + 2) sc, .int .i64 L, .int .i64 2, .int .i64 G]] w fun e w' => e = .returned (.tuple #[.string (vioW ss a p), .bool (vioB ss a p)]) ∧ Ext w w' := by
  obtain ⟨⟨hp1, hp3⟩, hsv⟩ := parts_valid hap
  have hpn : pn = ss.length := by obtain ⟨_, _, h1⟩ := h.sys; exact h1.1
  have hok : NetOk ss [a, p] := ⟨hsv, fun b hb => by simp at hb; rcases hb with rfl | rfl <;> assumption, hp3, by simp⟩
  have hU := union_le hsv
  have hal := (autValid_row hv).1
  have hL64 : L < 64 := by
    rw [hL]
    exact Nat.or_lt_two_pow (n := 6) (by omega) (by omega)
  obtain ⟨_, ⟨a1, _⟩, a3, _⟩ := autValid_row hv
  obtain ⟨_, ⟨p1, _⟩, p3, _⟩ := autValid_row hp
  have hsz : szs ss [a, p] = ss.map (fun s => s.st.toNat) ++ [a.next.length, p.next.length] := rfl
  have hln : (szs ss [a, p]).length = pn + 2 := by rw [hsz]; simp [hpn]
  have key := spec_l4First_any (pc := pc) (ac := ac) (sc := sc) (K := 2) (G := G) (goal := brkG a p) h hok hS hln hL64 (fun W hW x A l hh c mv hx hl => by
    have e0 : (szs ss [a, p])[pn]? = some a.next.length := by rw [hsz, List.getElem?_append_right (by simp [hpn])]; simp [hpn]
    have e1 : (szs ss [a, p])[pn + 1]? = some p.next.length := by rw [hsz, List.getElem?_append_right (by simp [hpn])]; simp [hpn]
    have d0 : (szs ss [a, p]).drop (pn + 1) = [p.next.length] := by
      rw [hsz, List.drop_append, List.drop_of_length_le (by simp [hpn])]
      simp [hpn]
    have d1 : (szs ss [a, p]).drop (pn + 1 + 1) = [] := List.drop_of_length_le (by rw [hln]; omega)
    have f0 := dec_get (x := x) e0
    have f1 := dec_get (x := x) e1
    rw [d0] at f0
    rw [d1] at f1
    simp only [prodS, Nat.mul_one, Nat.div_one] at f0 f1
    exact spec_l4Found2 (h.ext hW) hl (by rw [dec_length, hln]) f0 (by rw [a3]; exact Nat.mod_lt _ a1) f1 (by rw [p3]; exact Nat.mod_lt _ p1))
  refine key.mono fun e w' hr => ?_
  have := hr.first (letters_lt6 L)
  rw [← brkD_pnx, hL] at this
  exact this
/-- The search of the reference, without an assumption. -/
theorem first_free {PA AA SA : Option Addr} {pn pc ac sc lo hi : Nat} {G : Int} {L : Nat} {ss : List Sys} {p : Aut} {w : World} (h : NetAt w PA pn AA 1 ss [p]) (hap : areParts ss = true) (hp : autValid p = true) (hS : Lst NatP w lo hi SA (List.replicate (pn + 1) 0)) (hL : L = unionA ss) :
    Calls Tryz.prog 84 #[.agg #[.slice PA pn pc, .slice AA 1 ac, .slice SA (pn + 1) sc, .int .i64 L, .int .i64 3, .int .i64 G]] w fun e w' => e = .returned (.tuple #[.string (vioW ss free p), .bool (vioB ss free p)]) ∧ Ext w w' := by
  obtain ⟨⟨hp1, hp3⟩, hsv⟩ := parts_valid hap
  have hpn : pn = ss.length := by obtain ⟨_, _, h1⟩ := h.sys; exact h1.1
  have hok : NetOk ss [p] := ⟨hsv, fun b hb => by simp at hb; subst hb; assumption, hp3, by simp⟩
  have hU := union_le hsv
  obtain ⟨_, ⟨p1, _⟩, p3, _⟩ := autValid_row hp
  have hsz : szs ss [p] = ss.map (fun s => s.st.toNat) ++ [p.next.length] := rfl
  have hln : (szs ss [p]).length = pn + 1 := by rw [hsz]; simp [hpn]
  have key := spec_l4First_any (pc := pc) (ac := ac) (sc := sc) (K := 3) (G := G) (goal := brkG free p) h hok hS hln (show L < 64 by omega) (fun W hW x A l hh c mv hx hl => by
    have e0 : (szs ss [p])[pn]? = some p.next.length := by rw [hsz, List.getElem?_append_right (by simp [hpn])]; simp [hpn]
    have d1 : (szs ss [p]).drop (pn + 1) = [] := List.drop_of_length_le (by rw [hln]; omega)
    have f0 := dec_get (x := x) e0
    rw [d1] at f0
    simp only [prodS, Nat.div_one] at f0
    rw [brkG_free]
    exact spec_l4Found3 (h.ext hW) hl (by rw [dec_length, hln]) f0 (by rw [p3]; exact Nat.mod_lt _ p1))
  refine key.mono fun e w' hr => ?_
  have := hr.first (letters_lt6 L)
  rw [← brkD_free, hL] at this
  unfold vioW vioB
  rw [show free.al.toNat = 0 from rfl, Nat.or_zero]
  exact this
end Go.Proofs.YtplllipekeomiaaGreatDoor

namespace Go.Proofs.YtplllipekeomiaaGreatDoor
open Go Go.RowKit
set_option maxHeartbeats 4000000

/-- A system and two automata are valid. -/
def threeV (s : Sys) (a p : Aut) : Bool := sysValid s && (autValid a && autValid p)
noncomputable def underB (s : Sys) (a p : Aut) : Bool := threeV s a p && vioB [s] a p
noncomputable def underW (s : Sys) (a p : Aut) : ByteArray := if threeV s a p = true then vioW [s] a p else ByteArray.empty
noncomputable def keepsU (s : Sys) (a p : Aut) : Bool := threeV s a p && !vioB [s] a p
def partsV (ss : List Sys) (p : Aut) : Bool := areParts ss && autValid p
noncomputable def brokB (ss : List Sys) (p : Aut) : Bool := partsV ss p && vioB ss free p
noncomputable def brokW (ss : List Sys) (p : Aut) : ByteArray := if partsV ss p = true then vioW ss free p else ByteArray.empty
noncomputable def keepsP (ss : List Sys) (p : Aut) : Bool := partsV ss p && !vioB ss free p
theorem underB_keeps (s : Sys) (a p : Aut) : keepsU s a p = (threeV s a p && !underB s a p) := by unfold keepsU underB; cases threeV s a p <;> simp
theorem brokB_keeps (ss : List Sys) (p : Aut) : keepsP ss p = (partsV ss p && !brokB ss p) := by unfold keepsP brokB; cases partsV ss p <;> simp
section
variable {lo hi n c : Nat} {A : Option Addr} {s : Sys} {lo1 hi1 m1 d1 m1' d1' : Nat} {B B' : Option Addr} {a : Aut} {lo2 hi2 m2 d2 m2' d2' : Nat} {C C' : Option Addr} {p : Aut} {w : World}
set_option maxRecDepth 100000 in
theorem spec_l8Three (h : SysAt w lo hi A n s) (ha : AutAt w lo1 hi1 B m1 B' m1' a) (hp : AutAt w lo2 hi2 C m2 C' m2' p) :
    Calls Tryz.prog 56 #[.agg #[.int .i64 s.al, .int .i64 s.st, .slice A n c], .agg #[.int .i64 a.al, .slice B m1 d1, .slice B' m1' d1'], .agg #[.int .i64 p.al, .slice C m2 d2, .slice C' m2' d2']] w fun e w' => e = .returned (.bool (threeV s a p)) ∧ Ext w w' := by
  have HS := hide (fun W (hW : Ext w W) => spec_SystemValid (c := c) (h.ext hW))
  have HA := hide (fun W (hW : Ext w W) => spec_AutomatonValid _ _ _ _ d1 _ _ d1' _ _ (ha.ext hW))
  have HP := hide (fun W (hW : Ext w W) => spec_AutomatonValid _ _ _ _ d2 _ _ d2' _ _ (hp.ext hW))
  have hr := hide (show threeV s a p = (sysValid s && (autValid a && autValid p)) from rfl)
  clear h ha hp
  have hw1 : Ext w (((w.alloc (.cells #[.int .i64 s.al, .int .i64 s.st, .slice A n c] 54)).alloc (.cells #[.int .i64 a.al, .slice B m1 d1, .slice B' m1' d1'] 35)).alloc (.cells #[.int .i64 p.al, .slice C m2 d2, .slice C' m2' d2'] 35)) := (((Ext.refl w).alloc _).alloc _).alloc _
  obtain ⟨b1, b2, b3⟩ := ext_blk3 (Ext.refl (((w.alloc (.cells #[.int .i64 s.al, .int .i64 s.st, .slice A n c] 54)).alloc (.cells #[.int .i64 a.al, .slice B m1 d1, .slice B' m1' d1'] 35)).alloc (.cells #[.int .i64 p.al, .slice C m2 d2, .slice C' m2' d2'] 35)))
  cases h1 : sysValid s <;> cases h2 : autValid a <;> cases h3 : autValid p
  all_goals
    have H1 := hide h1
    have H2 := hide h2
    have H3 := hide h3
    clear h1 h2 h3
    go_enter Tryz.func56, Tryz.ntmps56
    go_upto_region 1 with fail
    generalize ((w.alloc (.cells #[.int .i64 s.al, .int .i64 s.st, .slice A n c] 54)).alloc (.cells #[.int .i64 a.al, .slice B m1 d1, .slice B' m1' d1'] 35)).alloc (.cells #[.int .i64 p.al, .slice C m2 d2, .slice C' m2' d2'] 35) = w1 at *
    have c1 := b1.cell
    go_wp2_with (first
      | (go_at_call 65; with_reducible refine (HS.out _ hw1).mono ?_; rw [H1.out]; rintro e w2 ⟨rfl, hx2⟩; have hw2 := hw1.trans hx2; have c2 := (b2.ext hx2).cell)
      | (go_at_call 27; with_reducible refine (HA.out _ hw2).mono ?_; rw [H2.out]; rintro e w3 ⟨rfl, hx3⟩; have hw3 := hw2.trans hx3; have c3 := (b3.ext (hx2.trans hx3)).cell)
      | (go_at_call 27; with_reducible refine (HP.out _ hw3).mono ?_; rw [H3.out]; rintro e w4 ⟨rfl, hx4⟩; have hw4 := hw3.trans hx4))
    go_ret
    exact ⟨ret_bool (by rw [hr.out, H1.out, H2.out, H3.out]; rfl), by first | exact hw4 | exact hw3 | exact hw2⟩
set_option maxRecDepth 100000 in
theorem spec_ViolationUnder (h : SysAt w lo hi A n s) (ha : AutAt w lo1 hi1 B m1 B' m1' a) (hp : AutAt w lo2 hi2 C m2 C' m2' p) :
    Calls Tryz.prog 55 #[.agg #[.int .i64 s.al, .int .i64 s.st, .slice A n c], .agg #[.int .i64 a.al, .slice B m1 d1, .slice B' m1' d1'], .agg #[.int .i64 p.al, .slice C m2 d2, .slice C' m2' d2']] w fun e w' => e = .returned (.tuple #[.string (underW s a p), .bool (underB s a p)]) ∧ Ext w w' := by
  have H8 := hide (fun W (hW : Ext w W) => spec_l8Three (c := c) (d1 := d1) (d1' := d1') (d2 := d2) (d2' := d2') (h.ext hW) (ha.ext hW) (hp.ext hW))
  have HS := hide (fun W (hW : Ext w W) => h.ext hW)
  have HA := hide (fun W (hW : Ext w W) => ha.ext hW)
  have HP := hide (fun W (hW : Ext w W) => hp.ext hW)
  clear h ha hp
  have hw1 : Ext w (((w.alloc (.cells #[.int .i64 s.al, .int .i64 s.st, .slice A n c] 54)).alloc (.cells #[.int .i64 a.al, .slice B m1 d1, .slice B' m1' d1'] 35)).alloc (.cells #[.int .i64 p.al, .slice C m2 d2, .slice C' m2' d2'] 35)) := (((Ext.refl w).alloc _).alloc _).alloc _
  obtain ⟨b1, b2, b3⟩ := ext_blk3 (Ext.refl (((w.alloc (.cells #[.int .i64 s.al, .int .i64 s.st, .slice A n c] 54)).alloc (.cells #[.int .i64 a.al, .slice B m1 d1, .slice B' m1' d1'] 35)).alloc (.cells #[.int .i64 p.al, .slice C m2 d2, .slice C' m2' d2'] 35)))
  cases hT : threeV s a p
  · have HT := hide hT
    have hr := hide (show underW s a p = ByteArray.empty ∧ underB s a p = false by unfold underW underB; rw [hT]; exact ⟨rfl, rfl⟩)
    clear hT
    go_enter Tryz.func55, Tryz.ntmps55
    go_upto_region 1 with fail
    generalize ((w.alloc (.cells #[.int .i64 s.al, .int .i64 s.st, .slice A n c] 54)).alloc (.cells #[.int .i64 a.al, .slice B m1 d1, .slice B' m1' d1'] 35)).alloc (.cells #[.int .i64 p.al, .slice C m2 d2, .slice C' m2' d2'] 35) = w1 at *
    have c1 := b1.cell
    have c2 := b2.cell
    have c3 := b3.cell
    go_wp2_with (go_at_call 56; refine (H8.out _ hw1).mono ?_; rw [HT.out]; rintro e w2 ⟨rfl, hx2⟩)
    go_ret2
    exact ⟨by rw [hr.out.1, hr.out.2]; rfl, hw1.trans hx2⟩
  · have hv : sysValid s = true ∧ autValid a = true ∧ autValid p = true := by
      unfold threeV at hT
      simp only [Bool.and_eq_true] at hT
      exact hT
    obtain ⟨v1, v2, v3⟩ := hv
    have HT := hide hT
    have hr := hide (show underW s a p = vioW [s] a p ∧ underB s a p = vioB [s] a p by unfold underW underB; rw [hT]; exact ⟨rfl, by simp⟩)
    have hal := (autValid_row v2).1
    have hsl := sysValid_al v1
    obtain ⟨sl, hse⟩ : ∃ al : Nat, Hid (s.al = al) := ⟨s.al.toNat, by unfold Hid; omega⟩
    obtain ⟨al, hae⟩ : ∃ al : Nat, Hid (a.al = al) := ⟨a.al.toNat, by unfold Hid; omega⟩
    have hsl6 : sl ≤ 63 := by have := hse.out; omega
    have hal6 : al ≤ 63 := by have := hae.out; omega
    have hor : bits .or .i64 (sl : Int) (al : Int) = ((sl ||| al : Nat) : Int) := bits_or (by unfold Sm; omega) (by unfold Sm; omega)
    have hLe := hide (show (sl ||| al) = unionA [s] ||| a.al.toNat by
      have h1 := hse.out; have h2 := hae.out
      rw [h2, Int.toNat_natCast]
      simp [unionA, h1])
    have hap := hide (show areParts [s] = true by simp [areParts, v1])
    have V2 := hide v2
    have V3 := hide v3
    clear hT hal hsl v1 v2 v3
    go_enter Tryz.func55, Tryz.ntmps55
    go_upto_region 1 with fail
    generalize ((w.alloc (.cells #[.int .i64 s.al, .int .i64 s.st, .slice A n c] 54)).alloc (.cells #[.int .i64 a.al, .slice B m1 d1, .slice B' m1' d1'] 35)).alloc (.cells #[.int .i64 p.al, .slice C m2 d2, .slice C' m2' d2'] 35) = w1 at *
    have c1 := b1.cell
    have c2 := b2.cell
    have c3 := b3.cell
    go_upto_region 3 with (go_at_call 56; refine (H8.out _ hw1).mono ?_; rw [HT.out]; rintro e w2 ⟨rfl, hx2⟩)
    clear c1 c2 c3
    replace b1 := b1.ext hx2
    replace b2 := b2.ext hx2
    replace b3 := b3.ext hx2
    have hw2 := hw1.trans hx2
    clear hw1 hx2
    have e1 := Blk.new w2 54 #[.int .i64 s.al, .int .i64 s.st, .slice A n c]
    have f1 := (Ext.refl w2).alloc (.cells #[.int .i64 s.al, .int .i64 s.st, .slice A n c] 54)
    have b1' := b1
    have b2' := b2.ext f1
    have b3' := b3.ext f1
    have e2 := Blk.new (w2.alloc (.cells #[.int .i64 s.al, .int .i64 s.st, .slice A n c] 54)) 35 #[.int .i64 a.al, .slice B m1 d1, .slice B' m1' d1', .int .i64 p.al, .slice C m2 d2, .slice C' m2' d2']
    have f2 := (Ext.refl (w2.alloc (.cells #[.int .i64 s.al, .int .i64 s.st, .slice A n c] 54))).alloc (.cells #[.int .i64 a.al, .slice B m1 d1, .slice B' m1' d1', .int .i64 p.al, .slice C m2 d2, .slice C' m2' d2'] 35)
    have e3 := Blk.new ((w2.alloc (.cells #[.int .i64 s.al, .int .i64 s.st, .slice A n c] 54)).alloc (.cells #[.int .i64 a.al, .slice B m1 d1, .slice B' m1' d1', .int .i64 p.al, .slice C m2 d2, .slice C' m2' d2'] 35)) 3 #[.int .i64 0, .int .i64 0, .int .i64 0]
    have f3 := (Ext.refl ((w2.alloc (.cells #[.int .i64 s.al, .int .i64 s.st, .slice A n c] 54)).alloc (.cells #[.int .i64 a.al, .slice B m1 d1, .slice B' m1' d1', .int .i64 p.al, .slice C m2 d2, .slice C' m2' d2'] 35))).alloc (.cells #[.int .i64 0, .int .i64 0, .int .i64 0] 3)
    have b1'' := b1.ext (f1.trans (f2.trans f3))
    have b2'' := b2.ext (f1.trans (f2.trans f3))
    have k1 := b1.cell
    have k2 := b2'.cell
    have k3 := b3'.cell
    have k4 := (b1''.cell 0).trans (show #[Value.int .i64 s.al, .int .i64 s.st, .slice A n c][0]? = some (Value.int .i64 (sl : Nat)) by rw [hse.out]; rfl)
    have k5 := (b2''.cell 0).trans (show #[Value.int .i64 a.al, .slice B m1 d1, .slice B' m1' d1'][0]? = some (Value.int .i64 (al : Nat)) by rw [hae.out]; rfl)
    have hw3 := hw2.trans (f1.trans (f2.trans f3))
    have hnet : ∃ lo hi, NetAt (((w2.alloc (.cells #[.int .i64 s.al, .int .i64 s.st, .slice A n c] 54)).alloc (.cells #[.int .i64 a.al, .slice B m1 d1, .slice B' m1' d1', .int .i64 p.al, .slice C m2 d2, .slice C' m2' d2'] 35)).alloc (.cells #[.int .i64 0, .int .i64 0, .int .i64 0] 3)) (some ⟨w2.heap.size, 0, none⟩) 1 (some ⟨w2.heap.size + 1, 0, none⟩) 2 [s] [a, p] ∧ Lst NatP (((w2.alloc (.cells #[.int .i64 s.al, .int .i64 s.st, .slice A n c] 54)).alloc (.cells #[.int .i64 a.al, .slice B m1 d1, .slice B' m1' d1', .int .i64 p.al, .slice C m2 d2, .slice C' m2' d2'] 35)).alloc (.cells #[.int .i64 0, .int .i64 0, .int .i64 0] 3)) lo hi (some ⟨w2.heap.size + 1 + 1, 0, none⟩) (List.replicate 3 0) := by
      have e2' := e2.ext f3
      have e3' := e3
      simp only [World.size_alloc] at e2' e3'
      exact ⟨_, _, ⟨sl_one (e1.ext (f2.trans f3)) (HS.out _ hw3), al_two e2' (HA.out _ hw3) (HP.out _ hw3)⟩, zeros_blk (n := 3) e3' rfl (by omega)⟩
    have Hnet := hide hnet
    clear hnet e1 e2 e3 f1 f2 f3 b1 b2 b3 b1' b2' b3' b1'' b2'' hw2
    go_wp2_with (go_at_call 84; obtain ⟨l1, h1, hn1, hn2⟩ := Hnet.out; refine (first_under (pn := 1) hn1 hap.out V2.out V3.out hn2 hLe.out).mono ?_; rintro e w4 ⟨rfl, hx4⟩)
    go_ret2
    exact ⟨by rw [hr.out.1, hr.out.2]; rfl, hw3.trans hx4⟩
end
end Go.Proofs.YtplllipekeomiaaGreatDoor

namespace Go.Proofs.YtplllipekeomiaaGreatDoor
open Go Go.RowKit
set_option maxHeartbeats 4000000

/-- 'make([]T, n)' as a step of a region. -/
theorem wp_make {P : Program} (w : World) {o : Oper} {a : Act} {K : Act → World → Prop} {Q : Exit → Act → World → Prop} (l c : Operand) (t : TypeId) (ho : o.op = .makeSlice t l c)
    (e : TypeId) (z : Value) (size bytes : Nat) (ht : P.underlying t = some (.slice e)) (hi : (P.info? e).map (fun i => (i.zero, i.size, i.bytes)) = some (some z, size, bytes))
    (kl kc : IntKind) (n : Nat) (hl : a.eval l = .int kl (n : Int)) (hc : a.eval c = .int kc (n : Int)) (hbytes : n * bytes ≤ 140737488355328) (h63 : n ≤ maxLen)
    (h : ∀ w', w'.ownsRow w.heap.size e size (.slice (some ⟨w.heap.size, 0, none⟩) n n) n (madeCells z.cells (n * size)).toList → Ext w w' → K (a.put o.dst (.slice (some ⟨w.heap.size, 0, none⟩) n n)) w') :
    o.wp P a w K Q := by
  obtain ⟨i, hi0, hz0, hz1, hz2⟩ := info_parts hi
  obtain ⟨w', hrun, r1, r2⟩ := run_make_full (P := P) w w.heap.size t e i z size ht hi0 hz0 hz1 kl kc n (by rw [hz2, Nat.mul_comm]; omega) h63 (Nat.le_refl _)
  unfold Oper.wp
  simp [execOp, ho, hl, hc, hrun, Result.andThen]
  exact h w' r1 ((Ext.refl _).grown r2 (by simp))
section
variable {lo hi n c : Nat} {A : Option Addr} {s : Sys} {lo1 hi1 m1 d1 m1' d1' : Nat} {B B' : Option Addr} {a : Aut} {lo2 hi2 m2 d2 m2' d2' : Nat} {C C' : Option Addr} {p : Aut} {w : World}
set_option maxRecDepth 100000 in
theorem spec_KeepsUnder (h : SysAt w lo hi A n s) (ha : AutAt w lo1 hi1 B m1 B' m1' a) (hp : AutAt w lo2 hi2 C m2 C' m2' p) :
    Calls Tryz.prog 28 #[.agg #[.int .i64 s.al, .int .i64 s.st, .slice A n c], .agg #[.int .i64 a.al, .slice B m1 d1, .slice B' m1' d1'], .agg #[.int .i64 p.al, .slice C m2 d2, .slice C' m2' d2']] w fun e w' => e = .returned (.bool (keepsU s a p)) ∧ Ext w w' := by
  have H8 := hide (fun W (hW : Ext w W) => spec_l8Three (c := c) (d1 := d1) (d1' := d1') (d2 := d2) (d2' := d2') (h.ext hW) (ha.ext hW) (hp.ext hW))
  have HV := hide (fun W (hW : Ext w W) => spec_ViolationUnder (c := c) (d1 := d1) (d1' := d1') (d2 := d2) (d2' := d2') (h.ext hW) (ha.ext hW) (hp.ext hW))
  have hr := hide (underB_keeps s a p)
  clear h ha hp
  generalize underB s a p = ub at *
  generalize underW s a p = uw at *
  have hw1 : Ext w (((w.alloc (.cells #[.int .i64 s.al, .int .i64 s.st, .slice A n c] 54)).alloc (.cells #[.int .i64 a.al, .slice B m1 d1, .slice B' m1' d1'] 35)).alloc (.cells #[.int .i64 p.al, .slice C m2 d2, .slice C' m2' d2'] 35)) := (((Ext.refl w).alloc _).alloc _).alloc _
  obtain ⟨b1, b2, b3⟩ := ext_blk3 (Ext.refl (((w.alloc (.cells #[.int .i64 s.al, .int .i64 s.st, .slice A n c] 54)).alloc (.cells #[.int .i64 a.al, .slice B m1 d1, .slice B' m1' d1'] 35)).alloc (.cells #[.int .i64 p.al, .slice C m2 d2, .slice C' m2' d2'] 35)))
  cases hT : threeV s a p <;> cases ub
  all_goals
    have HT := hide hT
    clear hT
    go_enter Tryz.func28, Tryz.ntmps28
    go_upto_region 1 with fail
    generalize ((w.alloc (.cells #[.int .i64 s.al, .int .i64 s.st, .slice A n c] 54)).alloc (.cells #[.int .i64 a.al, .slice B m1 d1, .slice B' m1' d1'] 35)).alloc (.cells #[.int .i64 p.al, .slice C m2 d2, .slice C' m2' d2'] 35) = w1 at *
    have c1 := b1.cell
    have c2 := b2.cell
    have c3 := b3.cell
    go_wp2_with (first
      | (go_at_call 55; refine (HV.out _ hw1).mono ?_; rintro e w2 ⟨rfl, hx2⟩; have hw2 := hw1.trans hx2; have c12 := (b1.ext hx2).cell; have c22 := (b2.ext hx2).cell; have c32 := (b3.ext hx2).cell)
      | (go_at_call 56; refine (H8.out _ hw2).mono ?_; rw [HT.out]; rintro e w3 ⟨rfl, hx3⟩; have hw3 := hw2.trans hx3))
    go_ret
    exact ⟨ret_bool (by rw [hr.out, HT.out]; rfl), hw3⟩
theorem madeZ (n : Nat) : (madeCells (Value.int .i64 0).cells (n * 1)).toList = nats (List.replicate n 0) := by
  simp [Value.cells, toList_madeCells_one, nats]
variable {k : Nat} {ss : List Sys}
set_option maxRecDepth 100000 in
theorem spec_PartsViolation (h : SLAt w lo hi A k ss) (hp : AutAt w lo2 hi2 C m2 C' m2' p) :
    Calls Tryz.prog 85 #[.slice A k c, .agg #[.int .i64 p.al, .slice C m2 d2, .slice C' m2' d2']] w fun e w' => e = .returned (.tuple #[.string (brokW ss p), .bool (brokB ss p)]) ∧ Ext w w' := by
  have HS := hide (fun W (hW : Ext w W) => h.ext hW)
  have HP := hide (fun W (hW : Ext w W) => hp.ext hW)
  have hkl := h.len
  have hkL := hide h.1
  clear h hp
  have hw1 : Ext w (w.alloc (.cells #[.int .i64 p.al, .slice C m2 d2, .slice C' m2' d2'] 35)) := (Ext.refl w).alloc _
  have b1 := Blk.new w 35 #[.int .i64 p.al, .slice C m2 d2, .slice C' m2' d2']
  cases hA : areParts ss
  · have hr := hide (show brokW ss p = ByteArray.empty ∧ brokB ss p = false by unfold brokW brokB partsV; rw [hA]; exact ⟨rfl, rfl⟩)
    have hPA := hide (show partsA ss = -1 by unfold partsA; rw [hA]; rfl)
    clear hA
    go_enter Tryz.func85, Tryz.ntmps85
    go_upto_region 1 with fail
    generalize w.alloc (.cells #[.int .i64 p.al, .slice C m2 d2, .slice C' m2' d2'] 35) = w1 at *
    go_wp2_with (go_at_call 82; refine (spec_PartsAlphabet (HS.out _ hw1)).mono ?_; rw [hPA.out]; rintro e w2 ⟨rfl, hx2⟩)
    go_ret2
    exact ⟨by rw [hr.out.1, hr.out.2]; rfl, hw1.trans hx2⟩
  · have hPA := hide (show partsA ss = (unionA ss : Int) by unfold partsA; rw [hA]; rfl)
    cases hV : autValid p
    · have hr := hide (show brokW ss p = ByteArray.empty ∧ brokB ss p = false by unfold brokW brokB partsV; rw [hA, hV]; exact ⟨rfl, rfl⟩)
      have HV := hide hV
      clear hA hV
      go_enter Tryz.func85, Tryz.ntmps85
      go_upto_region 1 with fail
      generalize w.alloc (.cells #[.int .i64 p.al, .slice C m2 d2, .slice C' m2' d2'] 35) = w1 at *
      go_wp2_with (first
        | (go_at_call 82; refine (spec_PartsAlphabet (HS.out _ hw1)).mono ?_; rw [hPA.out]; rintro e w2 ⟨rfl, hx2⟩; have hw2 := hw1.trans hx2; have c2 := (b1.ext hx2).cell)
        | (go_at_call 27; refine (spec_AutomatonValid _ _ _ _ _ _ _ _ _ _ (HP.out _ hw2)).mono ?_; rw [HV.out]; rintro e w3 ⟨rfl, hx3⟩; have hw3 := hw2.trans hx3))
      go_ret2
      exact ⟨by rw [hr.out.1, hr.out.2]; rfl, hw3⟩
    · have hr := hide (show brokW ss p = vioW ss free p ∧ brokB ss p = vioB ss free p by unfold brokW brokB partsV; rw [hA, hV]; exact ⟨rfl, by simp⟩)
      obtain ⟨⟨_, hk3⟩, hsv⟩ := parts_valid hA
      have hk3' : k ≤ 3 := by rw [hkL.out]; exact hk3
      have hU := union_le hsv
      have HV := hide hV
      have HA := hide hA
      clear hA hV hsv hk3
      generalize hUe : unionA ss = U at *
      have HU := hide hUe
      clear hUe
      go_enter Tryz.func85, Tryz.ntmps85
      go_upto_region 1 with fail
      generalize w.alloc (.cells #[.int .i64 p.al, .slice C m2 d2, .slice C' m2' d2'] 35) = w1 at *
      go_upto_region 4 with (first
        | (go_at_call 82; refine (spec_PartsAlphabet (HS.out _ hw1)).mono ?_; rw [hPA.out]; rintro e w2 ⟨rfl, hx2⟩; have hw2 := hw1.trans hx2; have c2 := (b1.ext hx2).cell)
        | (go_at_call 27; refine (spec_AutomatonValid _ _ _ _ _ _ _ _ _ _ (HP.out _ hw2)).mono ?_; rw [HV.out]; rintro e w3 ⟨rfl, hx3⟩; have hw3 := hw2.trans hx3))
      have b13 := b1.ext (hx2.trans hx3)
      have c3 : ∀ W, Ext w3 W → ∀ j, W.cell? ⟨w.heap.size, j, none⟩ = #[Value.int .i64 p.al, .slice C m2 d2, .slice C' m2' d2'][j]? := fun W hW => (b13.ext hW).cell
      have hww := Ext.refl w3
      have hk1 : IntKind.i64.wrap ((k : Int) + 1) = ((k + 1 : Nat) : Int) := by rw [← Int.natCast_succ]; exact wrapN (k + 1) (by omega)
      clear c2 b1 b13
      refine wp_region_tailU (fun X => Ext w3 X) [9] (OrdU.app [0, 1, 3, 4, 5, 7] (OrdU.two 2 (OrdU.of [6, 8, 9, 10, 11, 12, 13]) 6 (OrdU.of [2, 8, 9, 10, 11, 12, 13]))) (by kernel_rfl) (by kernel_rfl) (by kernel_rfl) (by kernel_rfl) (by kernel_rfl) (fun _ _ _ _ _ h => h) (by first | assumption | exact (Ext.refl _).drew | (refine Ext.drew ?_; assumption)) ?_
      repeat (first | (refine useq_skip rfl rfl (by assumption) ?_; simp only [Act.put, List.setIfInBounds_toArray, List.set_cons_zero, List.set_cons_succ]) | (refine useq_pure (v := ?_) rfl rfl rfl rfl (fun X => ?_) ?_; rotate_left; (focus (go_simp <;> with_reducible rfl)); simp only [Act.put, List.setIfInBounds_toArray, List.set_cons_zero, List.set_cons_succ]) | (refine useq_read (v := ?_) rfl rfl rfl rfl (fun X hX => ?_) ?_; rotate_left; (focus (go_simp <;> with_reducible rfl)); simp only [Act.put, List.setIfInBounds_toArray, List.set_cons_zero, List.set_cons_succ]))
      have hx0 : Ext w3 w3.drew := hww.drew
      generalize w3.drew = wd at *
      refine useq_both rfl rfl rfl rfl (fun K hK => ?_) (fun K hK => ?_)
      · go_simp
        have e2 := Blk.new wd 35 #[.int .i64 p.al, .slice C m2 d2, .slice C' m2' d2']
        replace hx0 := hx0.alloc (.cells #[.int .i64 p.al, .slice C m2 d2, .slice C' m2' d2'] 35)
        refine hK.out _ _ hx0 ?_
        generalize wd.alloc (.cells #[.int .i64 p.al, .slice C m2 d2, .slice C' m2' d2'] 35) = w4 at *
        generalize wd.heap.size = g4 at *
        (try simp only [Act.put, List.setIfInBounds_toArray, List.set_cons_zero, List.set_cons_succ])
        refine useq_step rfl rfl rfl (fun K hK => ?_)
        refine wp_make w4 _ _ 84 rfl 3 _ 1 8 Tryz.underlying84 info_int .i64 .i64 (k + 1) ?_ ?_ (by omega) (by unfold maxLen; omega) ?_
        · go_simp
        · go_simp
        intro w5 hown5 hx5
        rw [madeZ] at hown5
        replace hx0 := hx0.trans hx5
        replace e2 := e2.ext hx5
        refine hK.out _ _ hx0 ?_
        (try simp only [Act.put, List.setIfInBounds_toArray, List.set_cons_zero, List.set_cons_succ])
        repeat (first | (refine useq_skip rfl rfl (by assumption) ?_; simp only [Act.put, List.setIfInBounds_toArray, List.set_cons_zero, List.set_cons_succ]) | (refine useq_pure (v := ?_) rfl rfl rfl rfl (fun X => ?_) ?_; rotate_left; (focus (go_simp <;> with_reducible rfl)); simp only [Act.put, List.setIfInBounds_toArray, List.set_cons_zero, List.set_cons_succ]) | (refine useq_read (v := ?_) rfl rfl rfl rfl (fun X hX => ?_) ?_; rotate_left; (focus (go_simp <;> with_reducible rfl)); simp only [Act.put, List.setIfInBounds_toArray, List.set_cons_zero, List.set_cons_succ]))
        (refine useq_last rfl rfl rfl rfl (fun K hK => ?_))
        go_simp
        have hw5 := hw3.trans hx0
        refine (first_free (pn := k) ⟨⟨_, _, HS.out _ hw5⟩, al_one e2 (HP.out _ hw5)⟩ HA.out HV.out (zeros_row hown5) HU.out.symm).mono ?_
        rintro e w6 ⟨rfl, hx6⟩
        have hfin := hw5.trans hx6
        refine hK.out _ _ ?_
        (try simp only [Act.put, List.setIfInBounds_toArray, List.set_cons_zero, List.set_cons_succ])
        repeat (first | (refine useq_skip rfl rfl (by assumption) ?_; simp only [Act.put, List.setIfInBounds_toArray, List.set_cons_zero, List.set_cons_succ]) | (refine useq_pure (v := ?_) rfl rfl rfl rfl (fun X => ?_) ?_; rotate_left; (focus (go_simp <;> with_reducible rfl)); simp only [Act.put, List.setIfInBounds_toArray, List.set_cons_zero, List.set_cons_succ]) | (refine useq_read (v := ?_) rfl rfl rfl rfl (fun X hX => ?_) ?_; rotate_left; (focus (go_simp <;> with_reducible rfl)); simp only [Act.put, List.setIfInBounds_toArray, List.set_cons_zero, List.set_cons_succ]))
        refine useq_nil ?_
        go_wp2_with fail
        go_ret2
        exact ⟨by rw [hr.out.1, hr.out.2]; rfl, hfin⟩
      · refine wp_make wd _ _ 84 rfl 3 _ 1 8 Tryz.underlying84 info_int .i64 .i64 (k + 1) ?_ ?_ (by omega) (by unfold maxLen; omega) ?_
        · go_simp
        · go_simp
        intro w5 hown5 hx5
        rw [madeZ] at hown5
        replace hx0 := hx0.trans hx5
        refine hK.out _ _ hx0 ?_
        generalize wd.heap.size = g5 at *
        (try simp only [Act.put, List.setIfInBounds_toArray, List.set_cons_zero, List.set_cons_succ])
        (refine useq_step rfl rfl rfl (fun K hK => ?_); go_simp)
        have e2 := Blk.new w5 35 #[.int .i64 p.al, .slice C m2 d2, .slice C' m2' d2']
        have hx6 := (Ext.refl w5).alloc (.cells #[.int .i64 p.al, .slice C m2 d2, .slice C' m2' d2'] 35)
        replace hx0 := hx0.trans hx6
        replace hown5 := own_ext hown5 hx6
        refine hK.out _ _ hx0 ?_
        generalize w5.alloc (.cells #[.int .i64 p.al, .slice C m2 d2, .slice C' m2' d2'] 35) = w6 at *
        generalize w5.heap.size = g4 at *
        (try simp only [Act.put, List.setIfInBounds_toArray, List.set_cons_zero, List.set_cons_succ])
        repeat (first | (refine useq_skip rfl rfl (by assumption) ?_; simp only [Act.put, List.setIfInBounds_toArray, List.set_cons_zero, List.set_cons_succ]) | (refine useq_pure (v := ?_) rfl rfl rfl rfl (fun X => ?_) ?_; rotate_left; (focus (go_simp <;> with_reducible rfl)); simp only [Act.put, List.setIfInBounds_toArray, List.set_cons_zero, List.set_cons_succ]) | (refine useq_read (v := ?_) rfl rfl rfl rfl (fun X hX => ?_) ?_; rotate_left; (focus (go_simp <;> with_reducible rfl)); simp only [Act.put, List.setIfInBounds_toArray, List.set_cons_zero, List.set_cons_succ]))
        (refine useq_last rfl rfl rfl rfl (fun K hK => ?_))
        go_simp
        have hw5 := hw3.trans hx0
        refine (first_free (pn := k) ⟨⟨_, _, HS.out _ hw5⟩, al_one e2 (HP.out _ hw5)⟩ HA.out HV.out (zeros_row hown5) HU.out.symm).mono ?_
        rintro e w7 ⟨rfl, hx7⟩
        have hfin := hw5.trans hx7
        refine hK.out _ _ ?_
        (try simp only [Act.put, List.setIfInBounds_toArray, List.set_cons_zero, List.set_cons_succ])
        repeat (first | (refine useq_skip rfl rfl (by assumption) ?_; simp only [Act.put, List.setIfInBounds_toArray, List.set_cons_zero, List.set_cons_succ]) | (refine useq_pure (v := ?_) rfl rfl rfl rfl (fun X => ?_) ?_; rotate_left; (focus (go_simp <;> with_reducible rfl)); simp only [Act.put, List.setIfInBounds_toArray, List.set_cons_zero, List.set_cons_succ]) | (refine useq_read (v := ?_) rfl rfl rfl rfl (fun X hX => ?_) ?_; rotate_left; (focus (go_simp <;> with_reducible rfl)); simp only [Act.put, List.setIfInBounds_toArray, List.set_cons_zero, List.set_cons_succ]))
        refine useq_nil ?_
        go_wp2_with fail
        go_ret2
        exact ⟨by rw [hr.out.1, hr.out.2]; rfl, hfin⟩
set_option maxRecDepth 100000 in
theorem spec_PartsKeep (h : SLAt w lo hi A k ss) (hp : AutAt w lo2 hi2 C m2 C' m2' p) :
    Calls Tryz.prog 57 #[.slice A k c, .agg #[.int .i64 p.al, .slice C m2 d2, .slice C' m2' d2']] w fun e w' => e = .returned (.bool (keepsP ss p)) ∧ Ext w w' := by
  have HV := hide (fun W (hW : Ext w W) => spec_PartsViolation (c := c) (d2 := d2) (d2' := d2') (h.ext hW) (hp.ext hW))
  have HS := hide (fun W (hW : Ext w W) => h.ext hW)
  have HP := hide (fun W (hW : Ext w W) => hp.ext hW)
  have hr := hide (show keepsP ss p = (areParts ss && autValid p && !brokB ss p) from brokB_keeps ss p)
  clear h hp
  generalize brokB ss p = ub at *
  generalize brokW ss p = uw at *
  have hw1 : Ext w (w.alloc (.cells #[.int .i64 p.al, .slice C m2 d2, .slice C' m2' d2'] 35)) := (Ext.refl w).alloc _
  have b1 := Blk.new w 35 #[.int .i64 p.al, .slice C m2 d2, .slice C' m2' d2']
  cases hA : areParts ss <;> cases hVv : autValid p <;> cases ub
  all_goals
    have HA := hide (show areParts ss = _ from hA)
    have hPA := hide (show partsA ss = if areParts ss = true then (unionA ss : Int) else -1 from rfl)
    rw [hA] at hPA
    have HVv := hide hVv
    clear hA hVv
    simp only [Bool.false_eq_true, if_false, if_true] at hPA
    go_enter Tryz.func57, Tryz.ntmps57
    go_upto_region 1 with fail
    generalize w.alloc (.cells #[.int .i64 p.al, .slice C m2 d2, .slice C' m2' d2'] 35) = w1 at *
    have c1 := b1.cell
    go_wp2_with (first
      | (go_at_call 85; refine (HV.out _ hw1).mono ?_; rintro e w2 ⟨rfl, hx2⟩; have hw2 := hw1.trans hx2)
      | (go_at_call 82; refine (spec_PartsAlphabet (HS.out _ hw2)).mono ?_; rw [hPA.out]; rintro e w3 ⟨rfl, hx3⟩; have hw3 := hw2.trans hx3; have c3 := (b1.ext (hx2.trans hx3)).cell)
      | (go_at_call 27; refine (spec_AutomatonValid _ _ _ _ _ _ _ _ _ _ (HP.out _ hw3)).mono ?_; rw [HVv.out]; rintro e w4 ⟨rfl, hx4⟩; have hw4 := hw3.trans hx4))
    go_ret
    exact ⟨ret_bool (by rw [hr.out, HA.out, HVv.out]; rfl), by first | exact hw4 | exact hw3⟩
set_option maxRecDepth 100000 in
theorem spec_KeepsProperty (h : SysAt w lo hi A n s) (hp : AutAt w lo2 hi2 C m2 C' m2' p) :
    Calls Tryz.prog 29 #[.agg #[.int .i64 s.al, .int .i64 s.st, .slice A n c], .agg #[.int .i64 p.al, .slice C m2 d2, .slice C' m2' d2']] w fun e w' => e = .returned (.bool (keepsP [s] p)) ∧ Ext w w' := by
  have HS := hide (fun W (hW : Ext w W) => h.ext hW)
  have HP := hide (fun W (hW : Ext w W) => hp.ext hW)
  clear h hp
  have hw1 : Ext w ((w.alloc (.cells #[.int .i64 s.al, .int .i64 s.st, .slice A n c] 54)).alloc (.cells #[.int .i64 p.al, .slice C m2 d2, .slice C' m2' d2'] 35)) := ((Ext.refl w).alloc _).alloc _
  obtain ⟨b1, b2⟩ := ext_blk2 (Ext.refl ((w.alloc (.cells #[.int .i64 s.al, .int .i64 s.st, .slice A n c] 54)).alloc (.cells #[.int .i64 p.al, .slice C m2 d2, .slice C' m2' d2'] 35)))
  go_enter Tryz.func29, Tryz.ntmps29
  go_upto_region 1 with fail
  generalize (w.alloc (.cells #[.int .i64 s.al, .int .i64 s.st, .slice A n c] 54)).alloc (.cells #[.int .i64 p.al, .slice C m2 d2, .slice C' m2' d2'] 35) = w1 at *
  have c1 := b1.cell
  have e2 := Blk.new w1 54 #[.int .i64 s.al, .int .i64 s.st, .slice A n c]
  have f2 := (Ext.refl w1).alloc (.cells #[.int .i64 s.al, .int .i64 s.st, .slice A n c] 54)
  have c2 := (b2.ext f2).cell
  have hw2 := hw1.trans f2
  obtain ⟨l1, h1, hsl⟩ := sl_one e2 (HS.out _ hw2)
  go_wp2_with (go_at_call 57; refine (spec_PartsKeep hsl (HP.out _ hw2)).mono ?_; rintro e w3 ⟨rfl, hx3⟩)
  go_ret
  exact ⟨ret_bool rfl, hw2.trans hx3⟩
end
end Go.Proofs.YtplllipekeomiaaGreatDoor
