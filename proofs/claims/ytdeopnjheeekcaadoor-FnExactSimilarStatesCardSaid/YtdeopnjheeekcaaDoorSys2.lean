/- Systems: copies and comparisons of the laws. -/
import Derived.Test.YtdeopnjheeekcaaDoorSys
import Derived.Test.YtdeopnjheeekcaaDoorEq
namespace Go.Proofs.YtdeopnjheeekcaaDoor
open Go Go.RowKit
set_option maxHeartbeats 400000

/-- A system in new memory. -/
def RetSys (w : World) (s : Sys) (e : Ending) (w' : World) : Prop :=
  ∃ A n c, e = .returned (.agg #[.int .i64 s.al, .int .i64 s.st, .slice A n c]) ∧ OwnE w' w.heap.size A n c s.edges ∧ Ext w w'

theorem toSystem_any {lo hi : Nat} {A : Option Addr} {n c : Nat} {s : Sys} {w : World} (h : SysAt w lo hi A n s) (hn : n ≤ 1048576) :
    Calls Tryd.prog 9 #[.agg #[.int .i64 s.al, .int .i64 s.st, .slice A n c]] w (RetSys w s) := by
  have hR := fun W (hW : Ext w W) => h.2.ext hW
  have HR := hide hR
  clear hR
  go_enter Tryd.func9, Tryd.ntmps9
  go_wp2_with (go_at_call 26; refine (toEdgeS_any (HR.out _ ?_) hn).mono ?_; exact (((Ext.refl _).alloc _).alloc _).alloc _; rintro e w2 ⟨rfl, hown2, hext2⟩; obtain ⟨b1, b2, b3⟩ := ext_blk3 hext2; have c1 := b1.cell; have c2 := b2.cell; have c3 := b3.cell; have f2 := b2.frozen; have f3 := b3.frozen; have hx2 := ((((Ext.refl w).alloc _).alloc _).alloc _).trans hext2)
  have z2 := hext2.size
  simp only [World.size_alloc] at z2 hown2
  refine bodyPost_ret (v := .agg #[.int .i64 s.al, .int .i64 s.st, .slice (some ⟨w.heap.size + 1 + 1 + 1, 0, none⟩) n n]) (by simp [results, Tryd.results9, go_sem, c2]) rfl ⟨_, _, _, rfl, ?_, ?_⟩
  · refine (hown2.keep (S := fun k => k < w.heap.size + 3) ?_ (by intro b hb; omega)).less (by omega)
    iterate 4 refine Frm.cell ?_ (by dsimp only; omega) _
    exact Frm.refl _ _
  · iterate 4 refine Ext.setCell ?_ (by dsimp only; omega) _
    exact hx2

instance : BEq Edg := ⟨fun a b => decide (a.fr = b.fr) && (decide (a.le = b.le) && decide (a.to = b.to))⟩
theorem edg_beq (a b : Edg) : (a == b) = (decide (a.fr = b.fr) && (decide (a.le = b.le) && decide (a.to = b.to))) := rfl
instance : LawfulBEq Edg where
  eq_of_beq {a b} h := by
    rw [edg_beq] at h
    simp only [Bool.and_eq_true, decide_eq_true_eq] at h
    cases a; cases b; simp_all
  rfl {a} := by rw [edg_beq]; simp

theorem eqEdge_any {a b : Edg} {w : World} :
    Calls Tryd.prog 42 #[.agg #[.int .i64 a.fr, .int .i64 a.le, .int .i64 a.to], .agg #[.int .i64 b.fr, .int .i64 b.le, .int .i64 b.to]] w fun e w' => e = .returned (.bool (a == b)) ∧ Ext w w' := by
  have hx : Ext w ((w.alloc (.cells #[Value.int .i64 a.fr, .int .i64 a.le, .int .i64 a.to] 53)).alloc (.cells #[Value.int .i64 b.fr, .int .i64 b.le, .int .i64 b.to] 53)) := ((Ext.refl _).alloc _).alloc _
  have Hx := hide hx
  clear hx
  have He := hide (edg_beq a b)
  by_cases h0 : a.fr = b.fr
  · have n0 : (a.fr != b.fr) = false := by simp [h0]
    have H0 := hide h0
    clear h0
    by_cases h1 : a.le = b.le
    · have n1 : (a.le != b.le) = false := by simp [h1]
      have H1 := hide h1
      clear h1
      by_cases h2 : a.to = b.to
      · have n2 : (a.to != b.to) = false := by simp [h2]
        have H2 := hide h2
        clear h2
        go_enter Tryd.func42, Tryd.ntmps42
        go_wp2
        go_ret
        exact ⟨ret_bool (by rw [He.out, H0.out, H1.out, H2.out]; simp), Hx.out⟩
      · have n2 : (a.to != b.to) = true := by simp [h2]
        go_enter Tryd.func42, Tryd.ntmps42
        go_wp2
        go_ret
        exact ⟨ret_bool (by rw [He.out]; simp [h2]), Hx.out⟩
    · have n1 : (a.le != b.le) = true := by simp [h1]
      go_enter Tryd.func42, Tryd.ntmps42
      go_wp2
      go_ret
      exact ⟨ret_bool (by rw [He.out]; simp [h1]), Hx.out⟩
  · have n0 : (a.fr != b.fr) = true := by simp [h0]
    go_enter Tryd.func42, Tryd.ntmps42
    go_wp2
    go_ret
    exact ⟨ret_bool (by rw [He.out]; simp [h0]), Hx.out⟩

theorem eqEdgeS_any {lo hi lo' hi' : Nat} {A : Option Addr} {n c : Nat} {B : Option Addr} {m d : Nat} {l l' : List Edg} {w : World} (h : Reads w lo hi 3 A n (edgeCells l)) (h' : Reads w lo' hi' 3 B m (edgeCells l')) :
    Calls Tryd.prog 30 #[.slice A n c, .slice B m d] w fun e w' => e = .returned (.bool (l == l')) ∧ Ext w w' := by
  have hn := h.len
  have hm := h'.len
  have Hl := hide (show l.length = n by have := h.length; rw [edgeCells_length] at this; omega)
  have Hl' := hide (show l'.length = m by have := h'.length; rw [edgeCells_length] at this; omega)
  by_cases he : n = m
  · subst he
    go_enter Tryd.func30, Tryd.ntmps30
    go_wp2
    go_loopw [5] (fun i wr => ∃ k : Nat, k ≤ n ∧ i = .int .i64 k ∧ Hid (l.take k = l'.take k) ∧ Ext w wr) (fun i _ => n - (intOf i).toNat)
    case atStart => exact ⟨0, Nat.zero_le _, rfl, rfl, Ext.refl _⟩
    case round =>
      obtain ⟨k, hk, rfl, heq, hext⟩ := hrel
      by_cases hlt : k < n
      · obtain ⟨b, o, x, rfl, _, _, hx, c0, c1, c2⟩ := (h.ext hext).edge hlt
        obtain ⟨b', o', y, rfl, _, _, hy, d0, d1, d2⟩ := (h'.ext hext).edge hlt
        have e0 : ∀ W, Ext wr W → W.cell? ⟨b, o + k * 3, none⟩ = some (.int .i64 x.fr) := fun W hW => hW.cell_some c0
        have e1 : ∀ W, Ext wr W → W.cell? ⟨b, o + k * 3 + 1, none⟩ = some (.int .i64 x.le) := fun W hW => hW.cell_some c1
        have e2 : ∀ W, Ext wr W → W.cell? ⟨b, o + k * 3 + 2, none⟩ = some (.int .i64 x.to) := fun W hW => hW.cell_some c2
        have g0 : ∀ W, Ext wr W → W.cell? ⟨b', o' + k * 3, none⟩ = some (.int .i64 y.fr) := fun W hW => hW.cell_some d0
        have g1 : ∀ W, Ext wr W → W.cell? ⟨b', o' + k * 3 + 1, none⟩ = some (.int .i64 y.le) := fun W hW => hW.cell_some d1
        have g2 : ∀ W, Ext wr W → W.cell? ⟨b', o' + k * 3 + 2, none⟩ = some (.int .i64 y.to) := fun W hW => hW.cell_some d2
        clear c0 c1 c2 d0 d1 d2
        have hwr := Ext.refl wr
        cases hb : x == y
        all_goals
          have Hb := hide hb
          clear hb
          go_wp2_with fail
          go_region_held3 (fun W => Ext wr W) (first | assumption | (refine Ext.drew ?_; assumption) | (refine Ext.trans ?_ (by assumption); assumption) | (refine Ext.trans ?_ (by assumption); refine Ext.drew ?_; assumption)) ((go_at_call 42; refine (eqEdge_any (a := x) (b := y)).mono ?_; rw [Hb.out]; rintro e w3 ⟨rfl, hext3⟩))
          go_wp2
        · go_ret
          exact ⟨ret_bool (by rw [eq_stop hx.out hy.out Hb.out]), hext.trans (by assumption)⟩
        · go_roundw
          case rel => exact ⟨k + 1, by omega, by go_num, eq_step hx.out hy.out Hb.out heq.out, hext.trans (by assumption)⟩
          case measure => simp [intOf]; omega
      · obtain rfl : k = n := by omega
        go_wp2
        go_ret
        exact ⟨ret_bool (by rw [eq_end (by have := Hl.out; omega) (by have := Hl'.out; omega) heq.out]), hext⟩
  · have hne : ((n : Int) != (m : Int)) = true := by simp; omega
    go_enter Tryd.func30, Tryd.ntmps30
    go_wp2
    go_ret
    exact ⟨ret_bool (by rw [eq_lens (by rw [Hl.out, Hl'.out]; exact he)]), Ext.refl _⟩

/-- Two systems are equal as data. -/
def sysEq (s t : Sys) : Bool := decide (s.al = t.al) && (decide (s.st = t.st) && s.edges == t.edges)
theorem sysEq_self (s : Sys) : sysEq s s = true := by simp [sysEq]

theorem eqSystem_any {lo hi lo' hi' : Nat} {A : Option Addr} {n c : Nat} {B : Option Addr} {m d : Nat} {s t : Sys} {w : World} (h : SysAt w lo hi A n s) (h' : SysAt w lo' hi' B m t) :
    Calls Tryd.prog 11 #[.agg #[.int .i64 s.al, .int .i64 s.st, .slice A n c], .agg #[.int .i64 t.al, .int .i64 t.st, .slice B m d]] w fun e w' => e = .returned (.bool (sysEq s t)) ∧ Ext w w' := by
  have hR := fun W (hW : Ext w W) => h.2.ext hW
  have HR := hide hR
  have hR' := fun W (hW : Ext w W) => h'.2.ext hW
  have HR' := hide hR'
  clear hR hR'
  by_cases h0 : s.al = t.al
  · have n0 : (s.al != t.al) = false := by simp [h0]
    have H0 := hide h0
    clear h0
    by_cases h1 : s.st = t.st
    · have n1 : (s.st != t.st) = false := by simp [h1]
      have H1 := hide h1
      clear h1
      cases h2 : s.edges == t.edges
      all_goals
        have H2 := hide h2
        clear h2
        go_enter Tryd.func11, Tryd.ntmps11
        go_wp2_with (go_at_call 30; refine (eqEdgeS_any (HR.out _ ?_) (HR'.out _ ?_)).mono ?_; exact ((Ext.refl _).alloc _).alloc _; exact ((Ext.refl _).alloc _).alloc _; rw [H2.out]; rintro e w2 ⟨rfl, hext2⟩)
        go_ret
        exact ⟨ret_bool (by rw [sysEq, H0.out, H1.out, H2.out]; simp), (((Ext.refl _).alloc _).alloc _).trans hext2⟩
    · have n1 : (s.st != t.st) = true := by simp [h1]
      go_enter Tryd.func11, Tryd.ntmps11
      go_wp2
      go_ret
      exact ⟨ret_bool (by rw [sysEq]; simp [h1]), ((Ext.refl _).alloc _).alloc _⟩
  · have n0 : (s.al != t.al) = true := by simp [h0]
    go_enter Tryd.func11, Tryd.ntmps11
    go_wp2
    go_ret
    exact ⟨ret_bool (by rw [sysEq]; simp [h0]), ((Ext.refl _).alloc _).alloc _⟩
end Go.Proofs.YtdeopnjheeekcaaDoor
