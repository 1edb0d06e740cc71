/- Plain: how many steps a search has, and how many nodes. | impl.firstPath, walked. | Plain: traces of one system that are none of another; simulation keeps traces, and determinism makes it inclusion. No program in sight. | impl.(*moves).step, walked; what a set of states goes to. | As XSeqT: a region that draws its order, walked; up to three operations may come up at once; closures are made without memory. It holds of every program, without conditions. | impl.FirstTraceOutside's closures, walked. | Plain: a valid system's edges rise; a system without its unreachable states is bisimilar to it. No program in sight. | impl.FirstTraceOutside, walked: a search through pairs of a state and a set of states. -/
import Derived.Test.YtbifoikcmjmdeaaDoorG08
import Derived.Test.YtbifoikcmjmdeaaDoorG05
import Derived.Test.YtbifoikcmjmdeaaDoorG03
import Derived.Test.YtbifoikcmjmdeaaDoorG04
import Derived.Deep.DeepCutAuto
namespace Go.Proofs.YtbifoikcmjmdeaaDoor

theorem visN_cnt (st : List Bool × List Nat) (n : Nat) : (visN st n).1.count true + st.2.length = st.1.count true + (visN st n).2.length := by
  unfold visN
  cases h : st.1.getD n true
  · have hn : n < st.1.length := by
      rcases Nat.lt_or_ge n st.1.length with h1 | h1
      · exact h1
      · rw [List.getD_eq_getElem?_getD, List.getElem?_eq_none h1] at h; cases h
    have hv : st.1[n] = false := by rw [List.getD_eq_getElem?_getD, List.getElem?_eq_getElem hn] at h; exact h
    simp only [Bool.false_eq_true, if_false]
    rw [List.count_set hn, hv]
    simp
    omega
  · simp
theorem foldl_cnt (ns : List Nat) (st : List Bool × List Nat) : (ns.foldl visN st).1.count true + st.2.length = st.1.count true + (ns.foldl visN st).2.length := by
  induction ns generalizing st with
  | nil => rfl
  | cons n r ih =>
    have h1 := ih (visN st n)
    have h2 := visN_cnt st n
    rw [List.foldl_cons]
    omega
theorem vis_cnt (S : List Bool) (ns : List Nat) : (vis S ns).1.count true = S.count true + (vis S ns).2.length := by
  have := foldl_cnt ns (S, [])
  simpa [vis] using this
/-- All seen nodes stand in some step, each once. -/
def Cnt (S : List Bool) (st : List Stp) : Prop := (st.map fun p => p.nodes.length).sum = S.count true
theorem Cnt.add {S : List Bool} {st : List Stp} (h : Cnt S st) (a : Int) (l : Nat) (ns : List Nat) : Cnt (vis S ns).1 (addS st a l (vis S ns).2) := by
  unfold Cnt at h ⊢
  rw [vis_cnt, addS]
  by_cases he : (vis S ns).2 = []
  · rw [if_pos he, he, h]; rfl
  · rw [if_neg he]
    simp [h]
theorem Cnt.nil (N : Nat) : Cnt (List.replicate N false) [] := by
  unfold Cnt
  simp [List.count_replicate]
theorem sum_len {l : List Nat} (h : ∀ x ∈ l, 1 ≤ x) : l.length ≤ l.sum := by
  induction l with
  | nil => simp
  | cons x r ih =>
    have h1 := ih (fun y hy => h y (by simp [hy]))
    have h2 := h x (by simp)
    simp
    omega
theorem sum_mem {l : List Nat} {x : Nat} (h : x ∈ l) : x ≤ l.sum := by
  induction l with
  | nil => cases h
  | cons y r ih =>
    rcases List.mem_cons.1 h with rfl | h
    · simp
    · have := ih h
      simp
      omega
theorem Cnt.steps {S : List Bool} {st : List Stp} (h : Cnt S st) (hs : ∀ (k : Nat) (p : Stp), st[k]? = some p → p.nodes ≠ []) : st.length ≤ S.length := by
  unfold Cnt at h
  have h1 : (st.map fun p => p.nodes.length).length ≤ (st.map fun p => p.nodes.length).sum := sum_len (fun x hx => by
    obtain ⟨p, hp, rfl⟩ := List.mem_map.1 hx
    obtain ⟨k, hk⟩ := List.getElem?_of_mem hp
    have := hs k p hk
    have := List.length_pos_iff.2 this
    omega)
  rw [List.length_map, h] at h1
  exact Nat.le_trans h1 List.count_le_length
theorem Cnt.nodes {S : List Bool} {st : List Stp} (h : Cnt S st) {k : Nat} {p : Stp} (hp : st[k]? = some p) : p.nodes.length ≤ S.length := by
  unfold Cnt at h
  have h1 := sum_mem (List.mem_map.2 ⟨p, List.mem_of_getElem? hp, rfl⟩ : p.nodes.length ∈ st.map fun p => p.nodes.length)
  rw [h] at h1
  exact Nat.le_trans h1 List.count_le_length
/-- What the nodes of a step lead to. -/
def reach (d : Nat → Nat → List Nat) (l : Nat) (ns : List Nat) : List Nat := (ns.map fun n => d n l).flatten
theorem mem_reach {d : Nat → Nat → List Nat} {l : Nat} {ns : List Nat} {x : Nat} : x ∈ reach d l ns ↔ ∃ n ∈ ns, x ∈ d n l := by
  unfold reach
  rw [List.mem_flatten]
  exact ⟨fun ⟨ys, h1, h2⟩ => by obtain ⟨n, hn, rfl⟩ := List.mem_map.1 h1; exact ⟨n, hn, h2⟩, fun ⟨n, hn, h2⟩ => ⟨_, List.mem_map.2 ⟨n, hn, rfl⟩, h2⟩⟩
theorem reach_snoc (d : Nat → Nat → List Nat) (l : Nat) (ns : List Nat) (n : Nat) : reach d l (ns ++ [n]) = reach d l ns ++ d n l := by simp [reach]
theorem reach_take {d : Nat → Nat → List Nat} {l k n : Nat} {ns : List Nat} (h : ns[k]? = some n) : reach d l (ns.take (k + 1)) = reach d l (ns.take k) ++ d n l := by
  rw [List.take_add_one, h]
  exact reach_snoc _ _ _ _
theorem reach_len {d : Nat → Nat → List Nat} {l D : Nat} {ns : List Nat} (h : ∀ n ∈ ns, (d n l).length ≤ D) : (reach d l ns).length ≤ ns.length * D := by
  induction ns with
  | nil => simp [reach]
  | cons n r ih =>
    have h1 := ih (fun x hx => h x (by simp [hx]))
    have h2 := h n (by simp)
    simp only [reach, List.map_cons, List.flatten_cons, List.length_append, List.length_cons, Nat.add_mul, Nat.one_mul] at h1 ⊢
    omega
/-- What a search answers. -/
def Found (d : Nat → Nat → List Nat) (start : List Nat) (goal : Nat → Bool) (L : List Nat) (v : List Nat) : Prop :=
  (∀ l ∈ v, l ∈ L) ∧ (∃ x, Goes d start v x ∧ goal x = true) ∧ ∀ u, (∀ l ∈ u, l ∈ L) → wval u < wval v → ∀ x, Goes d start u x → goal x = false
def Lost (d : Nat → Nat → List Nat) (start : List Nat) (goal : Nat → Bool) (L : List Nat) : Prop := ∀ v, (∀ l ∈ v, l ∈ L) → ∀ x, Goes d start v x → goal x = false
end Go.Proofs.YtbifoikcmjmdeaaDoor

namespace Go.Proofs.YtbifoikcmjmdeaaDoor
open Go Go.RowKit
set_option maxHeartbeats 2000000

/-- What firstPath answers. -/
def RetPath (w : World) (d : Nat → Nat → List Nat) (start : List Nat) (goal : Nat → Bool) (L : List Nat) (e : Ending) (w' : World) : Prop :=
  Ext w w' ∧ ((∃ v, e = .returned (.tuple #[.string (strOfNums (lbs v)), .bool true]) ∧ Found d start goal L v) ∨ (e = .returned (.tuple #[.string ByteArray.empty, .bool false]) ∧ Lost d start goal L))

theorem Sea.start {w w1 : World} {N : Nat} {fg : Value} {t : TypeId} (hx : Ext (w.alloc (.cells #[fg] t)) w1) (hsz : (w.alloc (.cells #[fg] t)).heap.size < w1.heap.size) (hg : Blk (w.alloc (.cells #[fg] t)) w.heap.size t #[fg]) (hown : w1.ownsRow w.heap.size 4 1 (.slice (some ⟨w.heap.size + 1, 0, none⟩) N N) N (bools (List.replicate N false))) :
    Sea w ((w1.alloc (.cells #[.slice (some ⟨w.heap.size + 1, 0, none⟩) N N] 76)).alloc (.cells #[.slice none 0 0] 77)) w1.heap.size w.heap.size (w1.heap.size + 1) (w.heap.size + 1) N N fg (List.replicate N false) (.slice none 0 0) [] := by
  simp only [World.size_alloc] at hsz
  have h0 : Ext w w1 := ((Ext.refl w).alloc _).trans hx
  have hv := Blk.new w1 76 #[.slice (some ⟨w.heap.size + 1, 0, none⟩) N N]
  have ht := Blk.new (w1.alloc (.cells #[.slice (some ⟨w.heap.size + 1, 0, none⟩) N N] 76)) 77 #[.slice none 0 0]
  have hx2 : Ext w1 ((w1.alloc (.cells #[.slice (some ⟨w.heap.size + 1, 0, none⟩) N N] 76)).alloc (.cells #[.slice none 0 0] 77)) := ((Ext.refl w1).alloc _).alloc _
  refine ⟨h0.trans hx2, hv.ext ((Ext.refl _).alloc _), own_ext hown hx2, ⟨t, hg.ext (hx.trans hx2)⟩, by simpa using ht, World.ownsRow_nil _ _ _ _, fun k p v hk => by simp at hk, by omega, Nat.le_refl _, by omega, by omega, by omega, fun b hb => by simp [Value.ownBlock] at hb⟩

theorem sts_add {sts sts' : List (Stp × Value)} {a : Int} {l : Nat} {fr : List Nat} (h : (fr = [] ∧ sts' = sts) ∨ (fr ≠ [] ∧ ∃ v, sts' = sts ++ [(⟨a, l, fr⟩, v)])) : sts'.map Prod.fst = addS (sts.map Prod.fst) a l fr := by
  rcases h with ⟨h1, rfl⟩ | ⟨h1, v, rfl⟩
  · rw [addS, if_pos h1]
  · rw [addS, if_neg h1]; simp

/-- The letters of the words are letters. -/
theorem Bfs.letters {d : Nat → Nat → List Nat} {start : List Nat} {goal : Nat → Bool} {L : List Nat} {N : Nat} {S : List Bool} {st : List Stp} {ws : List (List Nat)} {i j : Nat} (h : Bfs d start goal L N S st ws i j) : ∀ (m k : Nat), k ≤ m → k < st.length → ∀ l ∈ ws.getD k [], l ∈ L := by
  intro m
  induction m with
  | zero =>
    intro k hk hlt l hl
    obtain rfl : k = 0 := by omega
    rw [h.zero _ (List.getElem?_eq_getElem hlt)] at hl
    cases hl
  | succ m ih =>
    intro k hk hlt l hl
    rcases h.word k _ (List.getElem?_eq_getElem hlt) with ⟨_, _, e⟩ | ⟨a, b, _, hak, _, hb, e⟩
    · rw [e] at hl; cases hl
    · rw [e] at hl
      rcases List.mem_append.1 hl with h1 | h1
      · exact ih a (by omega) (by omega) l h1
      · rw [List.mem_singleton.1 h1]; exact List.mem_of_getElem? hb
/-- The steps' words, with one step more. -/
theorem Bfs.words {d : Nat → Nat → List Nat} {start : List Nat} {goal : Nat → Bool} {L : List Nat} {N : Nat} {S : List Bool} {st : List Stp} {ws : List (List Nat)} {i j : Nat} (h : Bfs d start goal L N S st ws i j) (hL : Rise L) {a l : Nat} {fr : List Nat} (ha : a < st.length) (hl : l ∈ L) (k : Nat) (p : Stp) (hp : (st ++ [⟨a, l, fr⟩])[k]? = some p) :
    (p.parent = -1 ∧ (ws ++ [ws.getD a [] ++ [l]]).getD k [] = []) ∨ ∃ b : Nat, p.parent = (b : Int) ∧ b < k ∧ p.letter < 6 ∧ (ws ++ [ws.getD a [] ++ [l]]).getD k [] = (ws ++ [ws.getD a [] ++ [l]]).getD b [] ++ [p.letter] := by
  rcases Nat.lt_trichotomy k st.length with h1 | h1 | h1
  · rw [List.getElem?_append_left h1] at hp
    rw [getD_left _ (by rw [h.wl]; exact h1)]
    rcases h.word k p hp with ⟨_, h2, h3⟩ | ⟨b, c, h2, h3, _, h4, h5⟩
    · exact Or.inl ⟨h2, h3⟩
    · exact Or.inr ⟨b, h2, h3, hL.1 _ (List.mem_of_getElem? h4), by rw [getD_left _ (by rw [h.wl]; omega)]; exact h5⟩
  · rw [h1, List.getElem?_append_right (Nat.le_refl _), Nat.sub_self] at hp
    obtain rfl := Option.some.inj hp
    refine Or.inr ⟨a, rfl, by omega, hL.1 _ hl, ?_⟩
    rw [h1, ← h.wl, getD_last, getD_left _ (by rw [h.wl]; exact ha)]
  · rw [List.getElem?_eq_none (by simp; omega)] at hp
    cases hp
theorem Frm.out {T S : Nat → Prop} {a b c : World} (h : Frm T a b) (k : Frm S b c) (hS : ∀ x, S x → T x) : Frm T a c := h.trans (k.mono fun x _ hx => hS x hx)

set_option maxHeartbeats 16000000 in
set_option maxRecDepth 100000 in
theorem firstPath_any {w : World} {N kn kg m c q cL : Nat} {A AL : Option Addr} {capn capg : Array Value} {goal : Nat → Bool} {d : Nat → Nat → List Nat} {start L : List Nat} {D : Nat}
    (hA : IntsAt w A m start) (hstart : ∀ n ∈ start, n < N) (hm : m ≤ 1099511627776) (hL : IntsAt w AL q L) (hrise : Rise L) (hN : N ≤ 16777216) (hD : D ≤ 4096)
    (hinn : ∀ args W, (callFunc kn args).run Tryd.prog W = .ok (.enter kn args) W) (hin : ∀ args W, (callFunc kg args).run Tryd.prog W = .ok (.enter kg args) W)
    (hgoal : ∀ W, Ext w W → ∀ n, n < N → Calls Tryd.prog kg (#[.int .i64 (n : Nat)] ++ capg) W fun e W' => e = .returned (.bool (goal n)) ∧ Ext W W')
    (hd : ∀ n l, n < N → l ∈ L → (d n l).length ≤ D ∧ ∀ x ∈ d n l, x < N)
    (hnext : ∀ W, Ext w W → ∀ n l, n < N → l ∈ L → ∀ (base : Nat) (A : Option Addr) (m c : Nat) (xs : List Nat), w.heap.size ≤ base → base ≤ W.heap.size → m ≤ 1099511627776 → W.ownsRow base 3 1 (.slice A m c) m (nats xs) →
      Calls Tryd.prog kn (#[.int .i64 (n : Nat), .int .i64 (l : Nat), .slice A m c] ++ capn) W fun e W' => ∃ A' c', e = .returned (.slice A' (xs ++ d n l).length c') ∧ W'.ownsRow base 3 1 (.slice A' (xs ++ d n l).length c') (xs ++ d n l).length (nats (xs ++ d n l)) ∧ Frm (fun k => (Value.slice A m c).ownBlock = some k) W W') :
    Calls Tryd.prog 43 #[.int .i64 (N : Nat), .slice A m c, .slice AL q cL, .func (.func kn) #[] capn, .func (.func kg) #[] capg] w (RetPath w d start goal L) := by
  have HA := hide hA
  have Hstart := hide hstart
  have Hgoal := hide hgoal
  have Hnext := hide hnext
  have Hd := hide hd
  have hqm : q ≤ 9223372036854775807 := hL.2.1
  clear hA hstart hgoal hnext hd
  go_enter Tryd.func43, Tryd.ntmps43
  have hwa : Ext w (w.alloc (.cells #[.func (.func kg) #[] capg] 58)) := (Ext.refl w).alloc _
  have hgx := hide (Blk.new w 58 #[.func (.func kg) #[] capg])
  go_upto_region 4 with (at_make; refine wpList_make w _ rfl _ _ 76 rfl 4 _ 1 1 Tryd.underlying76 info_bool _ _ N rfl rfl hwa (by omega) (by unfold maxLen; omega) ?_; intro w1 hext1 hown1 hx1 hsz1)
  have hown2 : w1.ownsRow w.heap.size 4 1 (.slice (some ⟨w.heap.size + 1, 0, none⟩) N N) N (bools (List.replicate N false)) := by
    have h := hown1
    rw [World.size_alloc] at h
    simpa [bools, Value.cells, toList_madeCells_one] using h
  have hsea := Sea.start hx1 hsz1 hgx.out hown2
  have hx2 : Ext w ((w1.alloc (.cells #[.slice (some ⟨w.heap.size + 1, 0, none⟩) N N] 76)).alloc (.cells #[.slice none 0 0] 77)) := (hext1.alloc _).alloc _
  clear hown1 hown2 hx1 hsz1 hgx hext1 hwa
  generalize w1.heap.size + 1 = bt at *
  generalize w1.heap.size = bs at *
  generalize (w1.alloc (.cells #[.slice (some ⟨w.heap.size + 1, 0, none⟩) N N] 76)).alloc (.cells #[.slice none 0 0] 77) = w2 at *
  have hvs := vis_spec (List.replicate N false) start (fun n hn => by have := Hstart.out n hn; simpa using this)
  cases hg : (vis (List.replicate N false) start).2.any goal
  · have Hg := hide hg
    have hB := hide (Bfs.begin_ (d := d) (L := L) (goal := goal) Hstart.out (fun x hx => by
      cases hgx : goal x
      · rfl
      · rw [List.any_eq_true.2 ⟨x, hx, hgx⟩] at hg; cases hg))
    have hC := hide ((Cnt.nil N).add (-1) 0 start)
    clear hg hvs
    go_wp2_with (go_at_call 67; refine (visit_any (letter := 0) (parent := -1) hsea (HA.out.ext hx2) Hstart.out hm (by simp) hin Hgoal.out).mono ?_; rintro e w3 ⟨rfl, hx3, hsz3, vst, sts, hsea3, hcase⟩; rw [Hg.out]; have hst := hide (sts_add hcase); clear hcase)
    go_loopw [15, 17, 18, 20] (fun i l r x wr => ∃ (k : Nat) (S : List Bool) (vst : Value) (sts : List (Stp × Value)) (ws : List (List Nat)), i = .int .i64 k ∧ k ≤ sts.length ∧ sts.length ≤ N ∧ Sea w wr bs w.heap.size bt (w.heap.size + 1) N N (.func (.func kg) #[] capg) S vst sts ∧ Hid (Bfs d start goal L N S (sts.map Prod.fst) ws k 0) ∧ Hid (Cnt S (sts.map Prod.fst)))
      (fun i _ _ _ _ => N + 1 - (intOf i).toNat)
    case atStart =>
      simp only [List.map_nil] at hst
      have hB' := hB.out
      have hC' := hC.out
      rw [← hst.out] at hB' hC'
      exact ⟨0, _, vst, sts, _, rfl, Nat.zero_le _, by have := hC'.steps hB'.some_; rw [hB'.len] at this; simpa using this, hsea3, hide hB', hide hC'⟩
    case round =>
      clear hsea3 hst hB hC hx3 hsz3
      clear vst sts
      obtain ⟨k, S, vst, sts, ws, rfl, hk, hsN, hS, hB, hC⟩ := hrel
      obtain ⟨Av, cv, rfl⟩ := own_form hS.dt
      have cT := hS.vt.cell 0
      by_cases hlt : k < sts.length
      · have hcast : ((k : Int) < (sts.length : Int)) := by omega
        go_wp2
        go_loopw [17, 18, 20, 35] (fun _ _ _ i2 wi => ∃ (j : Nat) (S : List Bool) (vst : Value) (sts : List (Stp × Value)) (ws : List (List Nat)), i2 = .int .i64 j ∧ j ≤ q ∧ k < sts.length ∧ sts.length ≤ N ∧ Sea w wi bs w.heap.size bt (w.heap.size + 1) N N (.func (.func kg) #[] capg) S vst sts ∧ Hid (Bfs d start goal L N S (sts.map Prod.fst) ws k j) ∧ Hid (Cnt S (sts.map Prod.fst)))
          (fun _ _ _ i2 _ => q - (intOf i2).toNat)
        case atStart => exact ⟨0, S, _, sts, ws, rfl, Nat.zero_le _, hlt, hsN, hS, hB, hC⟩
        case round =>
          clear hS hB hC cT hlt hcast hk hsN
          rename World => wi
          obtain ⟨j, S, vst, sts, ws, rfl, hj, hk, hsN, hS, hB, hC⟩ := hrel
          by_cases hjq : j < q
          · obtain ⟨gl, ol, l, rfl, hxl, hcl⟩ := hL.at_ hjq
            have cL : wi.cell? ⟨gl, ol + j, none⟩ = some (.int .i64 (l : Nat)) := hS.ext.cell_some hcl
            have hlL := hide (List.mem_of_getElem? hxl.out)
            obtain ⟨⟨⟨pp, pl, pn⟩, vk⟩, hpk⟩ : ∃ x, Hid (sts[k]? = some x) := ⟨_, List.getElem?_eq_getElem hk⟩
            obtain ⟨Ak, ck, rfl, hnk⟩ := hS.nd k _ vk hpk.out
            dsimp only at hnk hpk
            have hpm := hide (show (sts.map Prod.fst)[k]? = some ⟨pp, pl, pn⟩ by rw [List.getElem?_map, hpk.out]; rfl)
            have hne := List.length_pos_iff.2 (hB.out.some_ k _ hpm.out)
            have hnN : pn.length ≤ N := by have := hC.out.nodes hpm.out; rw [hB.out.len] at this; exact this
            have hsmall := hide (hB.out.small k _ hpm.out)
            dsimp only at hne hsmall
            have cV : wi.cell? ⟨bt, 0, none⟩ = some vst := hS.vt.cell 0
            obtain ⟨Av, cv, rfl⟩ := own_form hS.dt
            obtain ⟨gv, rfl⟩ : ∃ gv, Av = some ⟨gv, 0, none⟩ := by
              rcases hS.dt.2 with ⟨_, hh⟩ | ⟨g, cap, cur, hv, _⟩
              · omega
              · exact ⟨g, by injection hv⟩
            obtain ⟨mk, hmk⟩ : ∃ mk, Hid (mk = pn.length) := ⟨_, rfl⟩
            have cK : wi.cell? ⟨gv, k * 3 + 2, none⟩ = some (.slice Ak mk ck) := by
              rw [hS.dt.cellAt _ (by omega), hmk.out]
              exact (stCells_get hpk.out).2.2
            rw [← hmk.out] at hnk hne hnN
            obtain ⟨gk, ok, _, rfl, _, _⟩ := hnk.at_ hne
            have Hnk := hide hnk
            have h1 := hS.vs.lt
            have h2 : w.heap.size < wi.heap.size := by obtain ⟨t, hh⟩ := hS.vg; exact hh.lt
            have h3 := hS.vt.lt
            have h4 := hS.gs_lt.2
            have h0 := hS.ext.size
            have HnI := hide (show ∀ b, wi.heap.size ≤ b → ∀ cs, wi.heap[b]? ≠ some (.cells cs 3 (0, 0)) from fun b hb cs hc => by
              have := (Array.getElem?_eq_some_iff.1 hc).1
              omega)
            have hvl := (hS.dt.lt gv rfl).2
            have HSea := hide (fun W (hW : Frm (fun b => wi.heap.size ≤ b) wi W) => hS.far hW (fun _ h => h) h1 h2 h3 h4 (fun b hb => by have : gv = b := (by simpa [Value.ownBlock] using hb); omega) h0 (hS.nd.frm hW HnI.out))
            have hkc : (k : Int) < (sts.length : Int) := by omega
            have hjc : (j : Int) < (q : Int) := by omega
            clear hnk hcl hS h1 h3 h4
            go_wp2_with fail
            go_loopw [18, 20, 45] (fun v _ i3 wr => ∃ i : Nat, i3 = .int .i64 i ∧ i ≤ mk ∧ wr.ownsRow wi.heap.size 3 1 v (reach d l (pn.take i)).length (nats (reach d l (pn.take i))) ∧ Frm (fun b => wi.heap.size ≤ b) wi wr) (fun _ _ i3 _ => mk - (intOf i3).toNat)
            case atStart => exact ⟨0, rfl, Nat.zero_le _, World.ownsRow_nil _ _ _ _, Frm.refl _ _⟩
            case round =>
              obtain ⟨i, rfl, hi, hown, hfr⟩ := hrel
              have hSr := hide (HSea.out wr hfr)
              have hsz := hfr.size
              have hrl : (reach d l (pn.take i)).length ≤ 1099511627776 - 4096 := by
                have e1 := reach_len (d := d) (l := l) (D := D) (ns := pn.take i) (fun n hn => (Hd.out n l (hsmall.out n (List.mem_of_mem_take hn)) hlL.out).1)
                have e2 := Nat.mul_le_mul (show (pn.take i).length ≤ 16777216 by rw [List.length_take]; omega) hD
                omega
              obtain ⟨A0, c0, rfl⟩ := own_form hown
              clear cL cV cK
              by_cases hil : i < mk
              · obtain ⟨g', o', n, hA', hn, cN⟩ := (Hnk.out.frm hfr HnI.out).at_ hil
                obtain ⟨rfl, rfl⟩ : gk = g' ∧ ok = o' := by injection hA' with e; injection e with e1 e2; exact ⟨e1, e2⟩
                have hnlt := hsmall.out n (List.mem_of_getElem? hn.out)
                have hnx := hide (Hnext.out wr hSr.out.ext n l hnlt hlL.out wi.heap.size A0 _ c0 _ h0 hsz (by omega) hown)
                clear hA'
                go_wp2_with fail
                refine hnx.out.mono ?_
                rintro e w4 ⟨A', c', rfl, hown4, hf4⟩
                have hlow := hide (fun b (hb : (Value.slice A0 (reach d l (pn.take i)).length c0).ownBlock = some b) => (hown.lt b hb).1)
                go_wp2_with fail
                go_roundw
                case rel => exact ⟨i + 1, by go_num, by omega, by rw [reach_take hn.out]; rw [List.length_append] at hown4 ⊢; exact hown4, hfr.out hf4 hlow.out⟩
                case measure => simp [intOf]; omega
              · obtain rfl : i = mk := by omega
                have htk : pn.take i = pn := List.take_of_length_le (by have := hmk.out; omega)
                rw [htk] at hown hrl ⊢
                have hrs := hide (fun x (hx : x ∈ reach d l pn) => by
                  obtain ⟨n, hn, hx⟩ := mem_reach.1 hx
                  exact (Hd.out n l (hsmall.out n hn) hlL.out).2 x hx)
                have hvis := hide (visit_any (letter := l) (parent := (k : Int)) (c := c0) hSr.out (IntsAt.own hown) hrs.out (by omega) (by omega) hin Hgoal.out)
                cases hg : (vis S (reach d l pn)).2.any goal
                · have Hg := hide hg
                  have hB' := hide (hB.out.step hrise hpm.out hxl.out (fun x => mem_reach) hrs.out (fun x hx => by
                    cases hgx : goal x
                    · rfl
                    · rw [List.any_eq_true.2 ⟨x, hx, hgx⟩] at hg; cases hg))
                  have hC' := hide (hC.out.add (k : Int) l (reach d l pn))
                  clear hg
                  go_wp2_with fail
                  refine hvis.out.mono ?_
                  rintro e w4 ⟨rfl, hx4, hsz4, vst4, sts4, hsea4, hcase⟩
                  rw [Hg.out]
                  have hst := hide (sts_add hcase)
                  have hlen : sts.length ≤ sts4.length := by
                    rcases hcase with ⟨_, rfl⟩ | ⟨_, v, rfl⟩ <;> simp
                  rw [← hst.out] at hB' hC'
                  go_wp2_with fail
                  go_roundw
                  case rel => exact ⟨j + 1, _, vst4, sts4, _, by go_num, by omega, by omega, (by have := hC'.out.steps hB'.out.some_; rw [hB'.out.len] at this; simpa using this), hsea4, hB', hC'⟩
                  case measure => simp [intOf]; omega
                · have Hg := hide hg
                  obtain ⟨x, hx, hgx⟩ := List.any_eq_true.1 hg
                  have hxr := ((vis_spec S (reach d l pn) (fun n hn => by rw [hB.out.len]; exact hrs.out n hn)).2.2 x).1 hx
                  obtain ⟨n, hn, hxd⟩ := mem_reach.1 hxr.1
                  have hF := hide (show Found d start goal L (ws.getD k [] ++ [l]) from ⟨fun m hm => (by
                    rcases List.mem_append.1 hm with h | h
                    · exact hB.out.letters k k (Nat.le_refl _) (by simpa using hk) m h
                    · rw [List.mem_singleton.1 h]; exact hlL.out), ⟨x, (hB.out.goes k _ hpm.out n hn).snoc hxd, hgx⟩, fun u hu hlt y hy => hB.out.found hrise (by simpa using hk) hxl.out hu hlt hy⟩)
                  clear hg hgx hxr hxd
                  go_wp2_with fail
                  refine hvis.out.mono ?_
                  rintro e w4 ⟨rfl, hx4, hsz4, vst4, sts4, hsea4, hcase⟩
                  rw [Hg.out]
                  obtain ⟨_, v4, hst4⟩ : (vis S (reach d l pn)).2 ≠ [] ∧ ∃ v, sts4 = sts ++ [(⟨(k : Int), l, (vis S (reach d l pn)).2⟩, v)] := by
                    rcases hcase with ⟨h, _⟩ | h
                    · rw [h] at hx; cases hx
                    · exact h
                  have hl4 : sts4.length = sts.length + 1 := by rw [hst4]; simp
                  obtain ⟨A4, c4, rfl⟩ := own_form hsea4.dt
                  have cV4 := hsea4.vt.cell 0
                  have hpw := hide (show Calls Tryd.prog 68 #[.slice A4 sts4.length c4] w4 fun e w' => e = .returned (.string (strOfNums (lbs (ws.getD k [] ++ [l])))) ∧ Ext w4 w' by
                    have key := pathWord_any (ws := ws ++ [ws.getD k [] ++ [l]]) hsea4.dt rfl (by omega) (by omega) (fun i p v hi => by
                      have hm : (sts4.map Prod.fst)[i]? = some p := by rw [List.getElem?_map, hi]; rfl
                      rw [hst4, List.map_append] at hm
                      exact hB.out.words hrise (by simpa using hk) hlL.out i p hm)
                    rw [hl4, Nat.add_sub_cancel, show sts.length = ws.length by have := hB.out.wl; simpa using this.symm, getD_last] at key
                    rw [hl4, show sts.length = ws.length by have := hB.out.wl; simpa using this.symm]
                    exact key)
                  clear hx hcase hst4 hl4
                  go_wp2_with fail
                  refine hpw.out.mono ?_
                  rintro e w5 ⟨rfl, hx5⟩
                  go_wp2_with fail
                  go_ret2
                  exact ⟨hx4.trans hx5, Or.inl ⟨_, rfl, hF.out⟩⟩
          · obtain rfl : j = q := by omega
            have hql := hL.1
            have hB2 := hide (hB.out.row (by omega))
            go_wp2
            go_roundw
            case rel => exact ⟨k + 1, S, vst, sts, ws, by go_num, by omega, hsN, hS, hB2, hC⟩
            case measure => simp [intOf]; omega
      · obtain rfl : k = sts.length := by omega
        have hlost := hide (show Lost d start goal L from fun v hv x hx => hB.out.none (by simp) hv hx)
        have hxr := hS.ext
        go_wp2
        go_ret2
        exact ⟨hxr, Or.inr ⟨rfl, hlost.out⟩⟩
  · have Hg := hide hg
    obtain ⟨x, hx, hgx⟩ := List.any_eq_true.1 hg
    have hF := hide (show Found d start goal L [] from ⟨fun l hl => (by cases hl), ⟨x, .nil ((hvs.2.2 x).1 hx).1, hgx⟩, fun u _ hu => by rw [wval_nil] at hu; omega⟩)
    clear hg hvs
    go_wp2_with (go_at_call 67; refine (visit_any (letter := 0) (parent := -1) hsea (HA.out.ext hx2) Hstart.out hm (by simp) hin Hgoal.out).mono ?_; rintro e w' ⟨rfl, hx3, _⟩; rw [Hg.out])
    go_ret2
    exact ⟨hx3, Or.inl ⟨[], rfl, hF.out⟩⟩
end Go.Proofs.YtbifoikcmjmdeaaDoor

namespace Go.Proofs.YtbifoikcmjmdeaaDoor
open Go Go.RowKit

/-- A node is a state and a set of states; what follows it by a letter. -/
def dW (es es' : List Edg) (Z n l : Nat) : List Nat := (letters (succ es (n / Z : Nat) l) 32).map fun q => q * Z + stepB es' (n % Z) l
section
variable {es es' : List Edg} {p q : Nat}
theorem dW_mem (hp : p ≤ 16) (hf : Few p es) (hg : Few q es') {n l x : Nat} : x ∈ dW es es' (2 ^ q) n l ↔ E es (n / 2 ^ q) l (x / 2 ^ q) ∧ x % 2 ^ q = stepB es' (n % 2 ^ q) l := by
  have hZ := Nat.two_pow_pos q
  have hy := stepB_lt hg (n % 2 ^ q) l
  unfold dW
  rw [List.mem_map]
  constructor
  · rintro ⟨k, hk, rfl⟩
    have h1 : (k * 2 ^ q + stepB es' (n % 2 ^ q) l) / 2 ^ q = k := by
      rw [Nat.mul_comm, Nat.mul_add_div hZ, Nat.div_eq_of_lt hy, Nat.add_zero]
    have h2 : (k * 2 ^ q + stepB es' (n % 2 ^ q) l) % 2 ^ q = stepB es' (n % 2 ^ q) l := by
      rw [Nat.mul_comm, Nat.mul_add_mod, Nat.mod_eq_of_lt hy]
    rw [h1, h2]
    exact ⟨(E_iff hf _ _ _).2 (mem_letters.1 hk).2, rfl⟩
  · rintro ⟨h1, h2⟩
    have h3 := (E_iff hf _ _ _).1 h1
    refine ⟨x / 2 ^ q, mem_letters.2 ⟨?_, h3⟩, ?_⟩
    · obtain ⟨e, he, _, _, h5⟩ := h1
      have := hf e he
      omega
    · rw [← h2, Nat.mul_comm]
      exact Nat.div_add_mod x (2 ^ q)
/-- What a word leads to in a system that is simulated: the set holds a state that simulates. -/
theorem sim_goes (hp : p ≤ 16) (hf : Few p es) (hg : Few q es') (hq : 1 ≤ q) {both : Bool} {R : List Nat} (hR : Gfp both es es' p q R) (h0 : rel R 0 0) {v : List Nat} {x : Nat} (hx : Goes (dW es es' (2 ^ q)) [1] v x) : ∃ j, rel R (x / 2 ^ q) j ∧ (x % 2 ^ q).testBit j = true := by
  have hZ : 2 ≤ 2 ^ q := by
    have := Nat.pow_le_pow_right (n := 2) (by omega) hq
    omega
  induction hx with
  | nil h =>
    obtain rfl := List.mem_singleton.1 h
    exact ⟨0, by rw [Nat.div_eq_of_lt (by omega)]; exact h0, by rw [Nat.mod_eq_of_lt (by omega)]; rfl⟩
  | @snoc w l n x _ h ih =>
    obtain ⟨j, hj, hb⟩ := ih
    obtain ⟨h1, h2⟩ := (dW_mem hp hf hg).1 h
    obtain ⟨k', h3, h4⟩ := (hR.post _ _ hj).1 _ _ h1
    refine ⟨k', h4, ?_⟩
    rw [h2, stepB_bit]
    obtain ⟨e, he, e1, e2, e3⟩ := h3
    exact ⟨e, he, ⟨e2, by rw [show e.fr.toNat = j by omega]; exact hb⟩, by omega⟩
theorem sim_lost (hp : p ≤ 16) (hf : Few p es) (hg : Few q es') (hq : 1 ≤ q) {both : Bool} {R : List Nat} (hR : Gfp both es es' p q R) (h0 : rel R 0 0) (L : List Nat) : Lost (dW es es' (2 ^ q)) [1] (fun n => n % 2 ^ q == 0) L := by
  intro v _ x hx
  obtain ⟨j, _, hj⟩ := sim_goes hp hf hg hq hR h0 hx
  cases h : (x % 2 ^ q == 0)
  · exact h
  · rw [beq_iff_eq] at h
    rw [h, Nat.zero_testBit] at hj
    cases hj
/-- The states that traces lead to. -/
inductive Rch (es : List Edg) : Nat → Prop where
  | zero : Rch es 0
  | step {i l k : Nat} (h : Rch es i) (hk : E es i l k) : Rch es k
/-- Each trace leads to one state. -/
def Det (es : List Edg) : Prop := ∀ i l k k', Rch es i → E es i l k → E es i l k' → k = k'
theorem Det.one (hg : Few q es') (hd : Det es') {j l k : Nat} (hj : Rch es' j) (hk : (stepB es' (2 ^ j) l).testBit k = true) : stepB es' (2 ^ j) l = 2 ^ k := by
  rw [stepB_one hg] at hk ⊢
  apply Nat.eq_of_testBit_eq
  intro i
  rw [Bool.eq_iff_iff, Nat.testBit_two_pow, decide_eq_true_eq]
  constructor
  · intro h
    exact hd j l k i hj ((E_iff hg j l k).2 hk) ((E_iff hg j l i).2 h)
  · rintro rfl
    exact hk
theorem pow_lt_of {j q x : Nat} (h : x % 2 ^ q = 2 ^ j) : j < q := by
  have h1 := Nat.mod_lt x (Nat.two_pow_pos q)
  rw [h] at h1
  exact (Nat.pow_lt_pow_iff_right (by omega)).1 h1
/-- One letter more, where no word leads out. -/
theorem lost_step (hp : p ≤ 16) (hf : Few p es) (hg : Few q es') {L : List Nat} (hL : ∀ i l k, E es i l k → l ∈ L) (hd : Det es') (h : Lost (dW es es' (2 ^ q)) [1] (fun n => n % 2 ^ q == 0) L)
    {v : List Nat} {x i j l k : Nat} (hv : ∀ l ∈ v, l ∈ L) (hx : Goes (dW es es' (2 ^ q)) [1] v x) (h1 : x / 2 ^ q = i) (h2 : x % 2 ^ q = 2 ^ j) (hj : Rch es' j) (hk : E es i l k) :
    l ∈ L ∧ ∃ k', E es' j l k' ∧ Goes (dW es es' (2 ^ q)) [1] (v ++ [l]) (k * 2 ^ q + 2 ^ k') := by
  have hl := hL _ _ _ hk
  have hZ := Nat.two_pow_pos q
  have hy := stepB_lt hg (2 ^ j) l
  have hm : k * 2 ^ q + stepB es' (2 ^ j) l ∈ dW es es' (2 ^ q) x l := by
    rw [dW_mem hp hf hg, h1, h2, Nat.mul_comm, Nat.mul_add_div hZ, Nat.div_eq_of_lt hy, Nat.add_zero, Nat.mul_add_mod, Nat.mod_eq_of_lt hy]
    exact ⟨hk, rfl⟩
  have hg2 := hx.snoc hm
  have hne := h (v ++ [l]) (fun m hm => by
    rcases List.mem_append.1 hm with h | h
    · exact hv m h
    · rw [List.mem_singleton.1 h]; exact hl) _ hg2
  simp only [beq_eq_false_iff_ne, ne_eq] at hne
  rw [Nat.mul_comm, Nat.mul_add_mod, Nat.mod_eq_of_lt hy] at hne
  obtain ⟨k', hk'⟩ := ne_zero_bit.1 hne
  rw [hd.one hg hj hk'] at hg2
  refine ⟨hl, k', ?_, hg2⟩
  rw [stepB_one hg] at hk'
  exact (E_iff hg j l k').2 hk'
theorem node_div {k q k' : Nat} (h : k' < q) : (k * 2 ^ q + 2 ^ k') / 2 ^ q = k ∧ (k * 2 ^ q + 2 ^ k') % 2 ^ q = 2 ^ k' := by
  have hZ := Nat.two_pow_pos q
  have hy : 2 ^ k' < 2 ^ q := (Nat.pow_lt_pow_iff_right (by omega)).2 h
  rw [Nat.mul_comm, Nat.mul_add_div hZ, Nat.div_eq_of_lt hy, Nat.add_zero, Nat.mul_add_mod, Nat.mod_eq_of_lt hy]
  exact ⟨rfl, rfl⟩
theorem E_lt (hf : Few p es) {i l k : Nat} (h : E es i l k) : i < p ∧ k < p := by
  obtain ⟨e, he, h1, h2, h3⟩ := h
  have := hf e he
  omega
theorem node_one (hq : 1 ≤ q) : 1 / 2 ^ q = 0 ∧ 1 % 2 ^ q = 2 ^ 0 := by
  have hZ : 2 ≤ 2 ^ q := by
    have := Nat.pow_le_pow_right (n := 2) (by omega) hq
    omega
  exact ⟨Nat.div_eq_of_lt (by omega), Nat.mod_eq_of_lt (by omega)⟩
/-- Determinism makes inclusion simulation. -/
theorem lost_sim (hp1 : 1 ≤ p) (hp : p ≤ 16) (hf : Few p es) (hg : Few q es') (hq : 1 ≤ q) {L : List Nat} (hL : ∀ i l k, E es i l k → l ∈ L) (hd : Det es') (h : Lost (dW es es' (2 ^ q)) [1] (fun n => n % 2 ^ q == 0) L)
    {R : List Nat} (hR : Gfp false es es' p q R) : rel R 0 0 := by
  refine hR.great (fun i j => i < p ∧ Rch es' j ∧ ∃ v x, (∀ l ∈ v, l ∈ L) ∧ Goes (dW es es' (2 ^ q)) [1] v x ∧ x / 2 ^ q = i ∧ x % 2 ^ q = 2 ^ j) ?_ 0 0 ⟨by omega, .zero, [], 1, (fun l hl => by cases hl), .nil (by simp), (node_one hq).1, (node_one hq).2⟩
  rintro i j ⟨hi, hj, v, x, hv, hx, h1, h2⟩
  refine ⟨hi, pow_lt_of h2, fun l k hk => ?_, fun hb => by cases hb⟩
  obtain ⟨hl, k', e', g'⟩ := lost_step hp hf hg hL hd h hv hx h1 h2 hj hk
  obtain ⟨d1, d2⟩ := node_div (k := k) (E_lt hg e').2
  refine ⟨k', e', (E_lt hf hk).2, hj.step e', v ++ [l], _, fun m hm => ?_, g', d1, d2⟩
  rcases List.mem_append.1 hm with h | h
  · exact hv m h
  · rw [List.mem_singleton.1 h]; exact hl
/-- Determinism of both makes equality bisimilarity. -/
theorem lost_bis (hp1 : 1 ≤ p) (hp : p ≤ 16) (hf : Few p es) (hg : Few q es') (hq : 1 ≤ q) (hq2 : q ≤ 16) {L : List Nat} (hL : ∀ i l k, E es i l k → l ∈ L) (hL' : ∀ i l k, E es' i l k → l ∈ L) (hd : Det es) (hd' : Det es')
    (h : Lost (dW es es' (2 ^ q)) [1] (fun n => n % 2 ^ q == 0) L) (h' : Lost (dW es' es (2 ^ p)) [1] (fun n => n % 2 ^ p == 0) L) {R : List Nat} (hR : Gfp true es es' p q R) : rel R 0 0 := by
  refine hR.great (fun i j => Rch es i ∧ Rch es' j ∧ ∃ v x y, (∀ l ∈ v, l ∈ L) ∧ Goes (dW es es' (2 ^ q)) [1] v x ∧ x / 2 ^ q = i ∧ x % 2 ^ q = 2 ^ j ∧ Goes (dW es' es (2 ^ p)) [1] v y ∧ y / 2 ^ p = j ∧ y % 2 ^ p = 2 ^ i) ?_ 0 0 ⟨.zero, .zero, [], 1, 1, (fun l hl => by cases hl), .nil (by simp), (node_one hq).1, (node_one hq).2, .nil (by simp), (node_one hp1).1, (node_one hp1).2⟩
  rintro i j ⟨hi, hj, v, x, y, hv, hx, h1, h2, hy, h3, h4⟩
  have key : ∀ l k k', E es i l k → E es' j l k' → ∃ v x y, (∀ l ∈ v, l ∈ L) ∧ Goes (dW es es' (2 ^ q)) [1] v x ∧ x / 2 ^ q = k ∧ x % 2 ^ q = 2 ^ k' ∧ Goes (dW es' es (2 ^ p)) [1] v y ∧ y / 2 ^ p = k' ∧ y % 2 ^ p = 2 ^ k := by
    intro l k k' hk hk'
    obtain ⟨hl, m', e', g'⟩ := lost_step hp hf hg hL hd' h hv hx h1 h2 hj hk
    obtain ⟨_, m, e, g⟩ := lost_step hq2 hg hf hL' hd h' hv hy h3 h4 hi hk'
    obtain rfl := hd' j l k' m' hj hk' e'
    obtain rfl := hd i l k m hi hk e
    obtain ⟨d1, d2⟩ := node_div (k := k) (E_lt hg e').2
    obtain ⟨d3, d4⟩ := node_div (k := k') (E_lt hf e).2
    refine ⟨v ++ [l], _, _, fun m hm => ?_, g', d1, d2, g, d3, d4⟩
    rcases List.mem_append.1 hm with h | h
    · exact hv m h
    · rw [List.mem_singleton.1 h]; exact hl
  refine ⟨pow_lt_of h4, pow_lt_of h2, fun l k hk => ?_, fun _ l k' hk' => ?_⟩
  · obtain ⟨_, k', e', _⟩ := lost_step hp hf hg hL hd' h hv hx h1 h2 hj hk
    exact ⟨k', e', hi.step hk, hj.step e', key l k k' hk e'⟩
  · obtain ⟨_, k, e, _⟩ := lost_step hq2 hg hf hL' hd h' hv hy h3 h4 hi hk'
    exact ⟨k, e, hi.step e, hj.step hk', key l k k' e hk'⟩
end
end Go.Proofs.YtbifoikcmjmdeaaDoor

namespace Go.Proofs.YtbifoikcmjmdeaaDoor
open Go Go.RowKit
set_option maxHeartbeats 2000000

theorem stepB_low {es : List Edg} {k0 x j : Nat} (hf : Few k0 es) (hb : x.testBit j = true) (hl : ∀ i, i < j → x.testBit i = false) (l : Int) : stepB es x l = succ es j l ||| stepB es (x - 2 ^ j) l := by
  apply Nat.eq_of_testBit_eq
  intro k
  rw [Nat.testBit_or, Bool.eq_iff_iff, Bool.or_eq_true, stepB_bit, stepB_bit, succ_bit]
  constructor
  · rintro ⟨e, he, ⟨h1, h2⟩, h3⟩
    have := hf e he
    by_cases e1 : e.fr.toNat = j
    · exact Or.inl ⟨e, he, ⟨by omega, h1⟩, h3⟩
    · refine Or.inr ⟨e, he, ⟨h1, ?_⟩, h3⟩
      rw [testBit_sub_low hb hl, h2]
      simp [e1]
  · rintro (⟨e, he, ⟨h1, h2⟩, h3⟩ | ⟨e, he, ⟨h1, h2⟩, h3⟩)
    · exact ⟨e, he, ⟨h2, by rw [h1]; exact hb⟩, h3⟩
    · rw [testBit_sub_low hb hl] at h2
      simp only [Bool.and_eq_true] at h2
      exact ⟨e, he, ⟨h1, h2.1⟩, h3⟩
theorem stepB_zero (es : List Edg) (l : Int) : stepB es 0 l = 0 := by
  apply Nat.eq_of_testBit_eq
  intro k
  rw [Nat.zero_testBit, Bool.eq_false_iff]
  intro h
  obtain ⟨e, _, ⟨_, h2⟩, _⟩ := (stepB_bit es 0 l k).1 h
  simp at h2
theorem stepB_sm {es : List Edg} {k0 : Nat} (hf : Few k0 es) (h : k0 ≤ 16) (x : Nat) (l : Int) : Sm (stepB es x l) :=
  Nat.lt_of_lt_of_le (stepB_lt hf x l) (by rw [show (4294967296 : Nat) = 2 ^ 32 from rfl]; exact Nat.pow_le_pow_right (by omega) (by omega))
theorem impl_step {es : List Edg} {bm k0 set l : Nat} {w : World} (hm : MovAt w bm es) (hT : Tab w) (hset : set < 2 ^ 16) (hl : l < 6) (hf : Few k0 es) (hk0 : k0 ≤ 16) :
    Calls Tryd.prog 61 #[.pointer (some ⟨bm, 0, none⟩), .int .i64 set, .int .i64 l] w fun e w' => e = .returned (.int .i64 (stepB es set l : Nat)) ∧ Ext w w' := by
  have hset' : set < 65536 := by simpa using hset
  have Hf := hide hf
  clear hf
  go_enter Tryd.func61, Tryd.ntmps61
  go_wp2
  go_loopw [1, 7] (fun s v wr => ∃ x : Nat, s = .int .i64 x ∧ x < 65536 ∧ ∃ y : Nat, v = .int .i64 y ∧ Sm y ∧ Hid (stepB es set l = y ||| stepB es x l) ∧ Ext w wr) (fun s _ _ => (intOf s).toNat)
  case atStart => exact ⟨set, rfl, hset', 0, rfl, by unfold Sm; omega, by simp [Hid], Ext.refl _⟩
  case round =>
    obtain ⟨x, rfl, hx, y, rfl, hy, hyo, hext⟩ := hrel
    by_cases h0 : x = 0
    · subst h0
      go_wp2
      go_ret
      have h1 := hyo.out
      rw [stepB_zero, Nat.or_zero] at h1
      exact ⟨ret_int (by rw [h1]), hext⟩
    · have hxs : Sm x := by unfold Sm; omega
      obtain ⟨j, hj, hj32, hjb, hjl, hand, hle⟩ := lowest h0 hxs
      have hj16 : j < 16 := by
        rcases Nat.lt_or_ge j 16 with h | h
        · exact h
        · have := Nat.pow_le_pow_right (n := 2) (by omega) h
          omega
      have hp := Nat.two_pow_pos j
      have hlow := hide (stepB_low Hf.out hjb hjl l)
      have c1 := hm j l hj16 hl
      have cM : ∀ W, Ext wr W → W.cell? ⟨bm, j * 6 + l, none⟩ = some (.int .i64 (succ es j l : Nat)) := fun W hW => (hext.trans hW).cell_some c1
      have hTs := hide (fun W (hW : Ext wr W) => hT.ext (hext.trans hW))
      have s1 := succ_sm Hf.out hk0 j l
      have bo := hide (bits_or hy s1)
      have hne : ((x : Int) != 0) = true := by simp; omega
      have hb := hide (bits_and (a := x) (b := x - 1) hxs (by unfold Sm; omega))
      have hi := hide (show ((x : Int) - 1) = ((x - 1 : Nat) : Int) by omega)
      have ux : IntKind.u64.wrap (x : Int) = x := by rw [IntKind.wrap_u64]; omega
      have htz := hide (fun W (hW : Ext wr W) => (show Calls Tryd.prog 79 #[.int .u64 x] W fun e w' => e = .returned (.int .i64 j) ∧ W = w' by rw [← hj]; exact tz x (by omega) h0 W (hTs.out W hW)))
      have hww := Ext.refl wr
      have hx1 : x - 2 ^ j < x := by omega
      have hx2 : x &&& (x - 1) = x - 2 ^ j := hand
      have Hx2 := hide hx2
      have hl6 : (l : Int) < 6 := by omega
      have hj16' : (j : Int) < 16 := by omega
      clear hj hjb hjl hand hx2 h0 hle c1
      generalize succ es j l = z at *
      go_wp2_with fail
      go_region_held3 (fun W => Ext wr W) (first | assumption | (refine Ext.drew ?_; assumption) | (refine Ext.trans ?_ (by assumption); assumption) | (refine Ext.trans ?_ (by assumption); refine Ext.drew ?_; assumption)) ((go_at_call 79; refine (htz.out _ ?_).mono ?_; (first | assumption | (refine Ext.drew ?_; assumption)); rintro e w' ⟨rfl, rfl⟩))
      go_wp2_with fail
      go_roundw
      case rel => exact ⟨x &&& (x - 1), by rw [hi.out, hb.out], by rw [Hx2.out]; omega, y ||| z, by rw [bo.out], hy.or s1, by unfold Hid; rw [hyo.out, hlow.out, Hx2.out, Nat.or_assoc], hext.trans (by assumption)⟩
      case measure =>
        have := hb.out
        rw [← hi.out] at this
        have h3 := Hx2.out
        simp [intOf]
        omega
end Go.Proofs.YtbifoikcmjmdeaaDoor

namespace Go.Proofs.YtbifoikcmjmdeaaDoor
open Go Go.RowKit

/-- Operations whose value hangs on no memory. -/
def pureOpU : Op → Bool
  | .makeFunc _ _ _ | .move _ | .assign _ | .pick _ _ _ | .binOp _ _ _ _ _ | .unOp _ _ _ | .fieldAddr _ _ _ | .field _ _ _ | .extract _ _ | .build _ _ => true
  | _ => false

/-- Operations that make no memory. -/
def quietOpU : Op → Bool
  | .makeFunc _ _ _ => true
  | o => quietOp o
/-- An order of a region's operations; where two or three may come up, all. -/
inductive OrdU where
  | nil : OrdU
  | one : Nat → OrdU → OrdU
  | two : Nat → OrdU → Nat → OrdU → OrdU
  | three : Nat → OrdU → Nat → OrdU → Nat → OrdU → OrdU
/-- One order. -/
def OrdU.of : List Nat → OrdU
  | [] => .nil
  | i :: r => .one i (OrdU.of r)
/-- Ahead of another order. -/
def OrdU.app : List Nat → OrdU → OrdU
  | [], o => o
  | i :: r, o => .one i (OrdU.app r o)
/-- The order serves: as okOrd, with the operations of the tail T, each behind all that reads memory. -/
def okOrdU (l : List Oper) (T : List Nat) : OrdU → Array Bool → Bool
  | .nil, listed => (Region.ready .any l.toArray listed).isEmpty
  | .one i rest, listed =>
    (match l[i]? with
      | some o => if quietOpU o.op then Region.free .any l.toArray listed i && (Region.ready .any l.toArray listed).contains i && !T.contains i && (pureOpU o.op || T.all fun t => below l l.length t i)
        else Region.ready .any l.toArray listed == [i]
      | none => false) && okOrdU l T rest (listed.setIfInBounds i true)
  | .two i r j r', listed => (i < l.length && j < l.length && Region.ready .any l.toArray listed == [i, j]) && (okOrdU l T r (listed.setIfInBounds i true) && okOrdU l T r' (listed.setIfInBounds j true))
  | .three i r j r' k r'', listed => (i < l.length && j < l.length && k < l.length && Region.ready .any l.toArray listed == [i, j, k]) && (okOrdU l T r (listed.setIfInBounds i true) && okOrdU l T r' (listed.setIfInBounds j true) && okOrdU l T r'' (listed.setIfInBounds k true))

def wpSeqU (P : Program) (l : List Oper) (T : List Nat) (Q : Exit → Act → World → Prop) (S : World → Prop) : OrdU → Act → World → Prop
  | .nil, a, w => Q .normal a w
  | .one i rest, a, w => match l[i]? with
    | some o => if quietOpU o.op then ∃ v, YieldsIf P l.toArray (if pureOpU o.op then fun _ => True else S) o v a ∧ wpSeqU P l T Q S rest (a.put o.dst v) w
      else wpOp P l.toArray Q i (fun a' w' => (T.contains i = false → S w') ∧ wpSeqU P l T Q S rest a' w') a w
    | none => False
  | .two i r j r', a, w => wpOp P l.toArray Q i (fun a' w' => (T.contains i = false → S w') ∧ wpSeqU P l T Q S r a' w') a w ∧ wpOp P l.toArray Q j (fun a' w' => (T.contains j = false → S w') ∧ wpSeqU P l T Q S r' a' w') a w
  | .three i r j r' k r'', a, w => wpOp P l.toArray Q i (fun a' w' => (T.contains i = false → S w') ∧ wpSeqU P l T Q S r a' w') a w ∧ wpOp P l.toArray Q j (fun a' w' => (T.contains j = false → S w') ∧ wpSeqU P l T Q S r' a' w') a w ∧ wpOp P l.toArray Q k (fun a' w' => (T.contains k = false → S w') ∧ wpSeqU P l T Q S r'' a' w') a w
/-- How many operations an order has. -/
def OrdU.len : OrdU → Nat
  | .nil => 0
  | .one _ r => r.len + 1
  | .two _ r _ _ => r.len + 1
  | .three _ r _ _ _ _ => r.len + 1
/-- Both ways are of one length. -/
def OrdU.even : OrdU → Bool
  | .nil => true
  | .one _ r => r.even
  | .two _ r _ r' => r.len == r'.len && (r.even && r'.even)
  | .three _ r _ r' _ r'' => (r.len == r'.len && r.len == r''.len) && (r.even && r'.even && r''.even)

section
variable {P : Program} {l : List Oper} {Q : Exit → Act → World → Prop} {S : World → Prop} {T : List Nat}

theorem seqU_sound (hs : Region.noSelect l.toArray = true) (hQ : ∀ (c : List PanicEntry) (a : Act) (d : Tmp) (v : Value) (w : World), Q (.panic c) (a.put (some d) v) w → Q (.panic c) a w) :
    ∀ (ord : OrdU) (listed : Array Bool) (a : Act) (w : World), listed.size = l.length → Clo l listed → ord.even = true → okOrdU l T ord listed = true → (tailed T listed ∨ S w) → wpSeqU P l T Q S ord a w →
      wpAnyL P .any l.toArray Q (fun listed w => tailed T listed ∨ S w) ord.len listed a w
  | .nil, listed, a, w, _, _, _, hok, _, h => by
    simp only [okOrdU, List.isEmpty_iff] at hok
    exact ⟨hok, h⟩
  | .one i rest, listed, a, w, hsz, hc, hev, hok, hS, h => by
    cases ho : l[i]? with
    | none => simp [okOrdU, ho] at hok
    | some o =>
      have hil : i < l.length := (List.getElem?_eq_some_iff.1 ho).1
      simp only [okOrdU, ho, Bool.and_eq_true] at hok
      simp only [wpSeqU, ho] at h
      by_cases hq : quietOpU o.op = true
      · rw [if_pos hq] at hok h
        simp only [Bool.and_eq_true] at hok
        obtain ⟨⟨⟨⟨hf, hrd⟩, hnT⟩, hpure⟩, hrest⟩ := hok
        obtain ⟨v, hy, hr⟩ := h
        have hmem : i ∈ Region.ready .any l.toArray listed := by simpa using hrd
        have hnT' : i ∉ T := by simpa using hnT
        have hset : ∀ listed : Array Bool, tailed T (listed.setIfInBounds i true) ↔ tailed T listed := fun listed => by
          constructor
          · rintro ⟨t, ht, hl⟩
            refine ⟨t, ht, ?_⟩
            rwa [getD_set_ne false (by rintro rfl; exact hnT' ht)] at hl
          · rintro ⟨t, ht, hl⟩
            exact ⟨t, ht, getD_set_true hl⟩
        refine wpAnyL_first (G := fun listed => Clo l listed ∧ listed.size = l.length) (by simpa using ho) (Region.noSelect_spec hs)
          (fun c a w h => by cases hd : o.dst with | none => rw [hd] at h; exact h | some d => rw [hd] at h; exact hQ c a d v w h)
          (fun li j hj hg => ⟨clo_step hj hg.1, by simpa using hg.2⟩) ?_ (fun li w h => h.imp (fun x => (hset li).2 x) id) (fun li w _ h => h.imp (fun x => (hset li).1 x) id)
          rest.len listed a w ⟨hc, hsz⟩ (Region.free_spec (by simpa using ho) hf) hmem hy hS ?_
        · intro li w' hg hun h
          by_cases hp : pureOpU o.op = true
          · rw [if_pos hp]; trivial
          · rw [if_neg hp]
            rcases h with ⟨t, ht, hl⟩ | h
            · exfalso
              simp only [hp, Bool.false_or] at hpure
              have hb := List.all_eq_true.1 hpure t ht
              have h1 := below_spec hg.1 _ _ _ hb hl
              have h2 : i < li.size := by rw [hg.2]; exact hil
              simp [h2] at hun h1
              rw [h1] at hun; cases hun
            · exact h
        · exact seqU_sound hs hQ rest _ _ _ (by simpa using hsz) (clo_step hmem hc) hev hrest (hS.imp (fun x => (hset _).2 x) id) hr
      · rw [if_neg hq] at hok h
        have hready : Region.ready .any l.toArray listed = [i] := by simpa using hok.1
        have hmem : i ∈ Region.ready .any l.toArray listed := by rw [hready]; simp
        refine ⟨fun h0 => (by rw [h0] at hready; cases hready), fun j hj => ?_⟩
        rw [hready] at hj
        rw [List.mem_singleton.1 hj]
        refine wpOp_mono (fun a' w' h => ?_) h
        have hS' : tailed T (listed.setIfInBounds i true) ∨ S w' := by
          cases hT : T.contains i
          · exact Or.inr (h.1 hT)
          · refine Or.inl ⟨i, by simpa using hT, ?_⟩
            have : i < listed.size := by omega
            simp [this]
        exact ⟨hS', seqU_sound hs hQ rest _ _ _ (by simpa using hsz) (clo_step hmem hc) hev hok.2 hS' h.2⟩
  | .two i r j r', listed, a, w, hsz, hc, hev, hok, hS, h => by
    simp only [OrdU.even, Bool.and_eq_true, beq_iff_eq] at hev
    simp only [okOrdU, Bool.and_eq_true, decide_eq_true_eq, beq_iff_eq] at hok
    simp only [wpSeqU] at h
    obtain ⟨⟨⟨hi, hj⟩, hready⟩, hok1, hok2⟩ := hok
    have hlen : (OrdU.two i r j r').len = r.len + 1 := rfl
    rw [hlen]
    have hm : ∀ k, k ∈ Region.ready .any l.toArray listed ↔ k = i ∨ k = j := fun k => by rw [hready]; simp
    have hS' : ∀ k w', k < l.length → (T.contains k = false → S w') → tailed T (listed.setIfInBounds k true) ∨ S w' := fun k w' hk hx => by
      cases hT : T.contains k
      · exact Or.inr (hx hT)
      · refine Or.inl ⟨k, by simpa using hT, ?_⟩
        have : k < listed.size := by omega
        simp [this]
    refine ⟨fun h0 => (by rw [h0] at hready; cases hready), fun k hk => ?_⟩
    rcases (hm k).1 hk with hk' | hk'
    · rw [hk'] at hk ⊢
      refine wpOp_mono (fun a' w' h => ?_) h.1
      exact ⟨hS' _ _ hi h.1, seqU_sound hs hQ r _ _ _ (by simpa using hsz) (clo_step hk hc) hev.2.1 hok1 (hS' _ _ hi h.1) h.2⟩
    · rw [hk'] at hk ⊢
      refine wpOp_mono (fun a' w' h => ?_) h.2
      have := seqU_sound hs hQ r' _ _ _ (by simpa using hsz) (clo_step hk hc) hev.2.2 hok2 (hS' _ _ hj h.1) h.2
      rw [← hev.1] at this
      exact ⟨hS' _ _ hj h.1, this⟩
  | .three i r j r' k r'', listed, a, w, hsz, hc, hev, hok, hS, h => by
    simp only [OrdU.even, Bool.and_eq_true, beq_iff_eq] at hev
    simp only [okOrdU, Bool.and_eq_true, decide_eq_true_eq, beq_iff_eq] at hok
    simp only [wpSeqU] at h
    obtain ⟨⟨⟨⟨hi, hj⟩, hk⟩, hready⟩, ⟨hok1, hok2⟩, hok3⟩ := hok
    obtain ⟨⟨e1, e2⟩, ⟨v1, v2⟩, v3⟩ := hev
    have hlen : (OrdU.three i r j r' k r'').len = r.len + 1 := rfl
    rw [hlen]
    have hm : ∀ x, x ∈ Region.ready .any l.toArray listed ↔ x = i ∨ x = j ∨ x = k := fun x => by rw [hready]; simp
    have hS' : ∀ k w', k < l.length → (T.contains k = false → S w') → tailed T (listed.setIfInBounds k true) ∨ S w' := fun k w' hk hx => by
      cases hT : T.contains k
      · exact Or.inr (hx hT)
      · refine Or.inl ⟨k, by simpa using hT, ?_⟩
        have : k < listed.size := by omega
        simp [this]
    refine ⟨fun h0 => (by rw [h0] at hready; cases hready), fun x hx => ?_⟩
    rcases (hm x).1 hx with hx' | hx' | hx'
    · rw [hx'] at hx ⊢
      refine wpOp_mono (fun a' w' h => ?_) h.1
      exact ⟨hS' _ _ hi h.1, seqU_sound hs hQ r _ _ _ (by simpa using hsz) (clo_step hx hc) v1 hok1 (hS' _ _ hi h.1) h.2⟩
    · rw [hx'] at hx ⊢
      refine wpOp_mono (fun a' w' h => ?_) h.2.1
      have := seqU_sound hs hQ r' _ _ _ (by simpa using hsz) (clo_step hx hc) v2 hok2 (hS' _ _ hj h.1) h.2
      rw [← e1] at this
      exact ⟨hS' _ _ hj h.1, this⟩
    · rw [hx'] at hx ⊢
      refine wpOp_mono (fun a' w' h => ?_) h.2.2
      have := seqU_sound hs hQ r'' _ _ _ (by simpa using hsz) (clo_step hx hc) v3 hok3 (hS' _ _ hk h.1) h.2
      rw [← e2] at this
      exact ⟨hS' _ _ hk h.1, this⟩

/-- The region, walked in one order: what reads under S first, then the tail. -/
theorem wp_region_tailU {id : Nat} {a : Act} {w : World} (S : World → Prop) (T : List Nat) (ord : OrdU) (hm : P.follows .mixedOrders = true) (hlen : ord.len = l.length) (hev : ord.even = true) (hs : Region.noSelect l.toArray = true) (hok : okOrdU l T ord (Array.replicate l.length false) = true)
    (hQ : ∀ (c : List PanicEntry) (a : Act) (d : Tmp) (v : Value) (w : World), Q (.panic c) (a.put (some d) v) w → Q (.panic c) a w) (hS : S w.drew) (h : wpSeqU P l T Q S ord a w.drew) : (Code.region id l.toArray true).wp P Q a w := by
  refine wp_region_any hm ?_
  have := wpAny_of_L _ _ _ _ (seqU_sound hs hQ ord _ a w.drew (by simp) (clo_start l) hev hok (Or.inr hS) h)
  rw [hlen] at this
  simpa using this

theorem useq_nil {a : Act} {w : World} (h : Q .normal a w) : wpSeqU P l T Q S .nil a w := h
/-- A step that needs no memory. -/
theorem useq_pure {i : Nat} {rest : OrdU} {o : Oper} {v : Value} {a : Act} {w : World} (ho : l[i]? = some o) (hq : quietOpU o.op = true) (_hp : pureOpU o.op = true) (hw : Region.wanted o (yielded l.toArray a.tmps) = true)
    (hy : ∀ W, (execOp a.eval o).run P W = .ok (.value v) W) (h : wpSeqU P l T Q S rest (a.put o.dst v) w) : wpSeqU P l T Q S (.one i rest) a w := by
  simp only [wpSeqU, ho, hq, if_true]
  exact ⟨v, .inl ⟨hw, fun W _ => hy W⟩, h⟩
/-- A step that reads. -/
theorem useq_read {i : Nat} {rest : OrdU} {o : Oper} {v : Value} {a : Act} {w : World} (ho : l[i]? = some o) (hq : quietOpU o.op = true) (hp : pureOpU o.op = false) (hw : Region.wanted o (yielded l.toArray a.tmps) = true)
    (hy : ∀ W, S W → (execOp a.eval o).run P W = .ok (.value v) W) (h : wpSeqU P l T Q S rest (a.put o.dst v) w) : wpSeqU P l T Q S (.one i rest) a w := by
  simp only [wpSeqU, ho, hq, hp, if_true]
  exact ⟨v, .inl ⟨hw, hy⟩, h⟩
/-- A step whose guard is off. -/
theorem useq_skip {i : Nat} {rest : OrdU} {o : Oper} {a : Act} {w : World} (ho : l[i]? = some o) (hw : Region.wanted o (yielded l.toArray a.tmps) = false)
    (hS : S w) (h : wpSeqU P l T Q S rest (a.put o.dst undef) w) : wpSeqU P l T Q S (.one i rest) a w := by
  simp only [wpSeqU, ho]
  split
  · exact ⟨undef, .inr ⟨hw, rfl⟩, h⟩
  · unfold wpOp
    simp only [List.getElem?_toArray, ho, hw, Bool.false_eq_true, if_false]
    exact ⟨fun _ => hS, h⟩
/-- A step that makes memory, or calls, ahead of the tail. -/
theorem useq_step {i : Nat} {rest : OrdU} {o : Oper} {a : Act} {w : World} (ho : l[i]? = some o) (hq : quietOpU o.op = false) (hw : Region.wanted o (yielded l.toArray a.tmps) = true)
    (h : ∀ K : Act → World → Prop, Shut (∀ a w, S w → wpSeqU P l T Q S rest a w → K a w) → o.wp P a w K Q) : wpSeqU P l T Q S (.one i rest) a w := by
  simp only [wpSeqU, ho, hq]
  unfold wpOp
  simp only [List.getElem?_toArray, ho, hw, if_true]
  exact .inl (h _ fun a w hS hW => ⟨fun _ => hS, hW⟩)
/-- A step of the tail. -/
theorem useq_last {i : Nat} {rest : OrdU} {o : Oper} {a : Act} {w : World} (ho : l[i]? = some o) (hq : quietOpU o.op = false) (hT : T.contains i = true) (hw : Region.wanted o (yielded l.toArray a.tmps) = true)
    (h : ∀ K : Act → World → Prop, Shut (∀ a w, wpSeqU P l T Q S rest a w → K a w) → o.wp P a w K Q) : wpSeqU P l T Q S (.one i rest) a w := by
  simp only [wpSeqU, ho, hq]
  unfold wpOp
  simp only [List.getElem?_toArray, ho, hw, if_true]
  exact .inl (h _ fun a w hW => ⟨fun hn => absurd (hn.symm.trans hT) (by decide), hW⟩)
end

section
variable {P : Program} {l : List Oper} {Q : Exit → Act → World → Prop} {S : World → Prop} {T : List Nat}
/-- Two that may come up, neither of the tail. -/
theorem useq_both {i j : Nat} {r r' : OrdU} {o o' : Oper} {a : Act} {w : World} (ho : l[i]? = some o) (ho' : l[j]? = some o') (hw : Region.wanted o (yielded l.toArray a.tmps) = true) (hw' : Region.wanted o' (yielded l.toArray a.tmps) = true)
    (h1 : ∀ K : Act → World → Prop, Shut (∀ a w, S w → wpSeqU P l T Q S r a w → K a w) → o.wp P a w K Q) (h2 : ∀ K : Act → World → Prop, Shut (∀ a w, S w → wpSeqU P l T Q S r' a w → K a w) → o'.wp P a w K Q) : wpSeqU P l T Q S (.two i r j r') a w := by
  constructor
  · unfold wpOp
    simp only [List.getElem?_toArray, ho, hw, if_true]
    exact .inl (h1 _ fun a w hS hW => ⟨fun _ => hS, hW⟩)
  · unfold wpOp
    simp only [List.getElem?_toArray, ho', hw', if_true]
    exact .inl (h2 _ fun a w hS hW => ⟨fun _ => hS, hW⟩)
/-- Three that may come up, none of the tail. -/
theorem useq_three {i j k : Nat} {r r' r'' : OrdU} {o o' o'' : Oper} {a : Act} {w : World} (ho : l[i]? = some o) (ho' : l[j]? = some o') (ho'' : l[k]? = some o'') (hw : Region.wanted o (yielded l.toArray a.tmps) = true) (hw' : Region.wanted o' (yielded l.toArray a.tmps) = true) (hw'' : Region.wanted o'' (yielded l.toArray a.tmps) = true)
    (h1 : ∀ K : Act → World → Prop, Shut (∀ a w, S w → wpSeqU P l T Q S r a w → K a w) → o.wp P a w K Q) (h2 : ∀ K : Act → World → Prop, Shut (∀ a w, S w → wpSeqU P l T Q S r' a w → K a w) → o'.wp P a w K Q) (h3 : ∀ K : Act → World → Prop, Shut (∀ a w, S w → wpSeqU P l T Q S r'' a w → K a w) → o''.wp P a w K Q) : wpSeqU P l T Q S (.three i r j r' k r'') a w := by
  refine ⟨?_, ?_, ?_⟩
  · unfold wpOp
    simp only [List.getElem?_toArray, ho, hw, if_true]
    exact .inl (h1 _ fun a w hS hW => ⟨fun _ => hS, hW⟩)
  · unfold wpOp
    simp only [List.getElem?_toArray, ho', hw', if_true]
    exact .inl (h2 _ fun a w hS hW => ⟨fun _ => hS, hW⟩)
  · unfold wpOp
    simp only [List.getElem?_toArray, ho'', hw'', if_true]
    exact .inl (h3 _ fun a w hS hW => ⟨fun _ => hS, hW⟩)
end
end Go.Proofs.YtbifoikcmjmdeaaDoor

namespace Go.Proofs.YtbifoikcmjmdeaaDoor
open Go Go.RowKit
set_option maxHeartbeats 2000000

/-- The goal: the set is empty. -/
theorem out_goal {w : World} {g8 n Z : Nat} (h8 : Blk w g8 3 #[.int .i64 (Z : Nat)]) (hZ : 0 < Z) (hn : n ≤ 16777216) :
    Calls Tryd.prog 63 #[.int .i64 (n : Nat), .pointer (some ⟨g8, 0, none⟩)] w fun e w' => e = .returned (.bool (n % Z == 0)) ∧ Ext w w' := by
  have c8 := h8.cell
  have hz : ((Z : Int) == 0) = false := by simp; omega
  go_enter Tryd.func63, Tryd.ntmps63
  go_wp2
  go_ret
  exact ⟨ret_bool (by rw [Bool.eq_iff_iff, beq_iff_eq, beq_iff_eq]; omega), Ext.refl _⟩
theorem Frm.grown2 {T : Nat → Prop} {w W W' : World} {row : Option Nat} (h : Frm T w W) (hg : W.grownBy W' row) (hr : ∀ k, row = some k → T k ∨ w.heap.size ≤ k) : Frm T w W' :=
  ⟨hg.os.trans h.os, hg.tape.trans h.tape, hg.output.trans h.output, Nat.le_trans h.size hg.size, fun k hk hn => (hg.block k (Nat.lt_of_lt_of_le hk h.size) (fun e => by
    rcases hr k e.symm with h1 | h1
    · exact hn h1
    · omega)).trans (h.block k hk hn)⟩
/-- What the closures have captured. -/
structure Caps (w : World) (g6 g7 g8 bm bn Z : Nat) (es es' : List Edg) : Prop where
  h6 : Blk w g6 65 #[.pointer (some ⟨bm, 0, none⟩)]
  h7 : Blk w g7 65 #[.pointer (some ⟨bn, 0, none⟩)]
  h8 : Blk w g8 3 #[.int .i64 (Z : Nat)]
  hm : MovB w bm es
  hn : MovB w bn es'
theorem Caps.ext {w w' : World} {g6 g7 g8 bm bn Z : Nat} {es es' : List Edg} (h : Caps w g6 g7 g8 bm bn Z es es') (hx : Ext w w') : Caps w' g6 g7 g8 bm bn Z es es' := ⟨h.h6.ext hx, h.h7.ext hx, h.h8.ext hx, h.hm.ext hx, h.hn.ext hx⟩
theorem map_take {α β : Type} {f : α → β} {l : List α} {k : Nat} {x : α} (h : l[k]? = some x) : (l.take (k + 1)).map f = (l.take k).map f ++ [f x] := by
  rw [List.take_add_one, h]; simp
set_option maxRecDepth 100000 in
theorem out_next {w : World} {g6 g7 g8 bm bn p q n l base m c Z : Nat} {A : Option Addr} {xs : List Nat} {es es' : List Edg} (hC : Caps w g6 g7 g8 bm bn Z es es') (hZe : Z = 2 ^ q) (hT : Tab w) (hf : Few p es) (hg : Few q es') (hp : p ≤ 16) (hq : q ≤ 16) (hn : n < p * Z) (hl : l < 6)
    (hb8 : g8 < base) (hb : base ≤ w.heap.size) (hm : m ≤ 1099511627776) (hown : w.ownsRow base 3 1 (.slice A m c) m (nats xs)) :
    Calls Tryd.prog 62 #[.int .i64 (n : Nat), .int .i64 (l : Nat), .slice A m c, .pointer (some ⟨g7, 0, none⟩), .pointer (some ⟨g8, 0, none⟩), .pointer (some ⟨g6, 0, none⟩)] w fun e w' => ∃ A' c', e = .returned (.slice A' (xs ++ dW es es' Z n l).length c') ∧ w'.ownsRow base 3 1 (.slice A' (xs ++ dW es es' Z n l).length c') (xs ++ dW es es' Z n l).length (nats (xs ++ dW es es' Z n l)) ∧ Frm (fun k => (Value.slice A m c).ownBlock = some k) w w' := by
  have hZ0 : 0 < Z := by rw [hZe]; exact Nat.two_pow_pos q
  have hZ1 : Z ≤ 65536 := by rw [hZe, show (65536 : Nat) = 2 ^ 16 from rfl]; exact Nat.pow_le_pow_right (by omega) hq
  have hset : n % Z < 65536 := Nat.lt_of_lt_of_le (Nat.mod_lt _ hZ0) hZ1
  have hq16 : n / Z < 16 := Nat.lt_of_lt_of_le (Nat.div_lt_of_lt_mul (by rw [Nat.mul_comm]; exact hn)) hp
  have hn2 : n ≤ 1048576 := by
    have := Nat.mul_le_mul hp hZ1
    omega
  have hmx := hide (show m = xs.length by have := hown.1; rw [nats_length] at this; omega)
  have hst := hide (fun W (hW : Ext w W) => impl_step ((hC.hn.ext hW).at_) (hT.ext hW) (show n % Z < 2 ^ 16 from hset) hl hg hq)
  have hs2 := succ_sm hf hp (n / Z : Nat) l
  have hcm := hC.hm.at_ (n / Z) l hq16 hl
  have hdW := hide (show dW es es' Z n l = (letters (succ es (n / Z : Nat) l) 32).map fun k => k * Z + stepB es' (n % Z) l from rfl)
  generalize dW es es' Z n l = res at *
  have hll := letters_length (succ es (n / Z : Nat) l) 32
  have hlt32 := hide (fun k (hk : k ∈ letters (succ es (n / Z : Nat) l) 32) => (mem_letters.1 hk).1)
  have hsl : stepB es' (n % Z) l < Z := by rw [hZe]; exact stepB_lt hg _ l
  have hmem := hide (fun W (hW : Ext w W) => impl_members (succ es (n / Z : Nat) l) hs2 W (hT.ext hW))
  generalize stepB es' (n % Z) l = y at *
  generalize letters (succ es (n / Z : Nat) l) 32 = ms at *
  generalize succ es (n / Z : Nat) l = sc at *
  have c6 : ∀ W, Ext w W → ∀ k, W.cell? ⟨g6, k, none⟩ = _ := fun W hW => (hC.h6.ext hW).cell
  have c7 : ∀ W, Ext w W → ∀ k, W.cell? ⟨g7, k, none⟩ = _ := fun W hW => (hC.h7.ext hW).cell
  have c8 : ∀ W, Ext w W → ∀ k, W.cell? ⟨g8, k, none⟩ = _ := fun W hW => (hC.h8.ext hW).cell
  have cM : ∀ W, Ext w W → W.cell? ⟨bm, n / Z * 6 + l, none⟩ = some (.int .i64 (sc : Nat)) := fun W hW => hW.cell_some hcm
  have h8 := hC.h8
  clear hC hcm hZe
  have hz : ((Z : Int) == 0) = false := by simp; omega
  have hdl := Nat.div_le_self n Z
  have hz2 : ¬ Z = 0 := by omega
  have hdc : Int.tdiv (n : Int) (Z : Int) = ((n / Z : Nat) : Int) := rfl
  have hnm : Int.tmod (n : Int) (Z : Int) = ((n % Z : Nat) : Int) := rfl
  generalize n / Z = dq at *
  generalize n % Z = rm at *
  have hnd : IntKind.i64.wrap (dq : Int) = (dq : Int) := IntWalk.i64_in _ (by omega)
  have hq16' : (dq : Int) < 16 := by omega
  have hl6' : (l : Int) < 6 := by omega
  have hww := Ext.refl w
  go_enter Tryd.func62, Tryd.ntmps62
  go_wp2
  refine wp_region_tailU (fun X => Ext w X) [5] (OrdU.of [0, 1, 2, 3, 4, 5, 6]) (by kernel_rfl) (by kernel_rfl) (by kernel_rfl) (by kernel_rfl) (by kernel_rfl) (fun _ _ _ _ _ h => h) (by first | assumption | exact (Ext.refl _).drew | (refine Ext.drew ?_; assumption)) ?_
  repeat (first | (refine useq_skip rfl rfl (by assumption) ?_; simp only [Act.put, List.setIfInBounds_toArray, List.set_cons_zero, List.set_cons_succ]) | (refine useq_pure (v := ?_) rfl rfl rfl rfl (fun X => ?_) ?_; rotate_left; (focus (go_simp <;> with_reducible rfl)); simp only [Act.put, List.setIfInBounds_toArray, List.set_cons_zero, List.set_cons_succ]) | (refine useq_read (v := ?_) rfl rfl rfl rfl (fun X hX => ?_) ?_; rotate_left; (focus (go_simp <;> with_reducible rfl)); simp only [Act.put, List.setIfInBounds_toArray, List.set_cons_zero, List.set_cons_succ]))
  (refine useq_step rfl rfl rfl (fun K hK => ?_); go_simp)
  refine (hst.out _ (Ext.refl w).drew).mono ?_
  rintro e w2 ⟨rfl, hx2⟩
  have hw2 := (Ext.refl w).drew.trans hx2
  refine hK.out _ _ hw2 ?_
  (try simp only [Act.put, List.setIfInBounds_toArray, List.set_cons_zero, List.set_cons_succ])
  repeat (first | (refine useq_skip rfl rfl (by assumption) ?_; simp only [Act.put, List.setIfInBounds_toArray, List.set_cons_zero, List.set_cons_succ]) | (refine useq_pure (v := ?_) rfl rfl rfl rfl (fun X => ?_) ?_; rotate_left; (focus (go_simp <;> with_reducible rfl)); simp only [Act.put, List.setIfInBounds_toArray, List.set_cons_zero, List.set_cons_succ]) | (refine useq_read (v := ?_) rfl rfl rfl rfl (fun X hX => ?_) ?_; rotate_left; (focus (go_simp <;> with_reducible rfl)); simp only [Act.put, List.setIfInBounds_toArray, List.set_cons_zero, List.set_cons_succ]))
  refine useq_nil ?_
  go_wp2_with fail
  have hS2 := hw2
  refine wp_region_tailU (fun X => Ext w X) [] (OrdU.of [0, 1, 2, 3, 4, 11, 5, 6, 7, 8, 9, 10]) (by kernel_rfl) (by kernel_rfl) (by kernel_rfl) (by kernel_rfl) (by kernel_rfl) (fun _ _ _ _ _ h => h) (by first | assumption | exact (Ext.refl _).drew | (refine Ext.drew ?_; assumption)) ?_
  repeat (first | (refine useq_skip rfl rfl (by assumption) ?_; simp only [Act.put, List.setIfInBounds_toArray, List.set_cons_zero, List.set_cons_succ]) | (refine useq_pure (v := ?_) rfl rfl rfl rfl (fun X => ?_) ?_; rotate_left; (focus (go_simp <;> with_reducible rfl)); simp only [Act.put, List.setIfInBounds_toArray, List.set_cons_zero, List.set_cons_succ]) | (refine useq_read (v := ?_) rfl rfl rfl rfl (fun X hX => ?_) ?_; rotate_left; (focus (go_simp <;> with_reducible rfl)); simp only [Act.put, List.setIfInBounds_toArray, List.set_cons_zero, List.set_cons_succ]))
  (refine useq_step rfl rfl rfl (fun K hK => ?_); go_simp)
  refine hK.out _ _ hw2.drew ?_
  (try simp only [Act.put, List.setIfInBounds_toArray, List.set_cons_zero, List.set_cons_succ])
  repeat (first | (refine useq_skip rfl rfl (by assumption) ?_; simp only [Act.put, List.setIfInBounds_toArray, List.set_cons_zero, List.set_cons_succ]) | (refine useq_pure (v := ?_) rfl rfl rfl rfl (fun X => ?_) ?_; rotate_left; (focus (go_simp <;> with_reducible rfl)); simp only [Act.put, List.setIfInBounds_toArray, List.set_cons_zero, List.set_cons_succ]) | (refine useq_read (v := ?_) rfl rfl rfl rfl (fun X hX => ?_) ?_; rotate_left; (focus (go_simp <;> with_reducible rfl)); simp only [Act.put, List.setIfInBounds_toArray, List.set_cons_zero, List.set_cons_succ]))
  (refine useq_step rfl rfl rfl (fun K hK => ?_); go_simp)
  refine (hmem.out _ hw2.drew).mono ?_
  rintro e w3 ⟨A3, c3, rfl, hown3, hx3⟩
  have hw3 := hw2.drew.trans hx3
  refine hK.out _ _ hw3 ?_
  (try simp only [Act.put, List.setIfInBounds_toArray, List.set_cons_zero, List.set_cons_succ])
  repeat (first | (refine useq_skip rfl rfl (by assumption) ?_; simp only [Act.put, List.setIfInBounds_toArray, List.set_cons_zero, List.set_cons_succ]) | (refine useq_pure (v := ?_) rfl rfl rfl rfl (fun X => ?_) ?_; rotate_left; (focus (go_simp <;> with_reducible rfl)); simp only [Act.put, List.setIfInBounds_toArray, List.set_cons_zero, List.set_cons_succ]) | (refine useq_read (v := ?_) rfl rfl rfl rfl (fun X hX => ?_) ?_; rotate_left; (focus (go_simp <;> with_reducible rfl)); simp only [Act.put, List.setIfInBounds_toArray, List.set_cons_zero, List.set_cons_succ]))
  refine useq_nil ?_
  obtain ⟨k3, hk3⟩ : ∃ k3, Hid (k3 = ms.length) := ⟨_, rfl⟩
  rw [← hk3.out] at hown3 ⊢
  obtain ⟨wb, hwb⟩ : ∃ wb : World, wb.heap.size = base := ⟨{ w with heap := w.heap.extract 0 base }, by simp; omega⟩
  subst hwb
  have hTl := hide (fun b (hb : (Value.slice A m c).ownBlock = some b) => hown.lt b hb)
  have hown3' := hide (show ∀ W, Frm (fun b => (Value.slice A m c).ownBlock = some b) w3 W → W.ownsRow w2.drew.heap.size 3 1 (.slice A3 k3 c3) k3 (nats ms) from fun W hW => own_frm hown3 hW (fun b hv hS => by
    have h1 := (hown3.lt b hv).1
    have h2 := (hTl.out b hS).2
    have h3 := hw2.drew.size
    omega))
  have h8' := hide (show ∀ W, Frm (fun b => (Value.slice A m c).ownBlock = some b) w3 W → Blk W g8 3 #[.int .i64 (Z : Nat)] from fun W hW => (h8.ext hw3).frm hW (fun hS => by
    have h1 := (hTl.out g8 hS).1
    omega))
  have hown0 := own_ext hown hw3
  have hb3 := hw3.size
  have hres := hide hdW.out
  clear hdW hown h8 hst hmem c6 c7 c8 cM hx2 hx3 hS2
  have hk32 : k3 ≤ 32 := by have := hk3.out; omega
  go_wp2_with fail
  go_loopw [2, 12, 30] (fun v _ i wr => ∃ k : Nat, k ≤ k3 ∧ i = .int .i64 k ∧ wr.ownsRow wb.heap.size 3 1 v (m + k) (nats (xs ++ (ms.take k).map fun k => k * Z + y)) ∧ Frm (fun b => (Value.slice A m c).ownBlock = some b) w3 wr ∧ Hid (∀ b, v.ownBlock = some b → (Value.slice A m c).ownBlock = some b ∨ w3.heap.size ≤ b)) (fun _ _ i _ => k3 - (intOf i).toNat)
  case atStart => exact ⟨0, Nat.zero_le _, rfl, by simpa using hown0, Frm.refl _ _, (show Hid _ from fun b hb => Or.inl hb)⟩
  case round =>
    clear hown0
    obtain ⟨k, hk, rfl, hown, hfr, hat⟩ := hrel
    have hsz := hfr.size
    by_cases hlt : k < k3
    · obtain ⟨g, o, n, rfl, hx, hc⟩ := (IntsAt.own (hown3'.out _ hfr)).at_ hlt
      have hn32 := hlt32.out n (List.mem_of_getElem? hx.out)
      have c8 := (h8'.out _ hfr).cell
      have hmul : n * Z ≤ 32 * 65536 := Nat.mul_le_mul (by omega) hZ1
      have hmi : (n : Int) * (Z : Int) = ((n * Z : Nat) : Int) := by simp
      have htk := hide (map_take (f := fun k => k * Z + y) hx.out)
      have hkc : (k : Int) < (k3 : Int) := by omega
      generalize n * Z = nz at *
      go_wp2_with (at_builtin; refine wpList_push3 wb _ rfl _ _ _ rfl 3 _ 1 8 Tryd.underlying33 info_int rfl (by decide) u2 (m + k) (nats (xs ++ (ms.take k).map fun k => k * Z + y)) _ _ rfl rfl (by omega) hown rfl (by simp [Value.oneCell']) (by unfold maxLen; omega) (by omega) ?_; intro g5 cap5 w5 hown5 hg5 hat5 hlt5)
      have hfr5 := hfr.grown2 hg5 hat.out
      go_roundw
      case rel =>
        refine ⟨k + 1, by omega, by go_num, ?_, hfr5, (show Hid _ from fun b hb => ?_)⟩
        · rw [htk.out, ← List.append_assoc, nats_append]
          exact hown5
        · have hbg : g5 = b := by simpa [Value.ownBlock] using hb
          subst hbg
          rcases hat5 with h | h
          · exact hat.out _ h
          · exact Or.inr (by omega)
      case measure => simp [intOf]; omega
    · obtain rfl : k = k3 := by omega
      have htk : ms.take k = ms := List.take_of_length_le (by have := hk3.out; omega)
      rw [htk] at hown
      obtain ⟨A5, c5, rfl⟩ := own_form hown
      have hfin := hw3.toFrm.trans hfr
      have hlen := hide (show (xs ++ res).length = m + k by rw [hres.out]; simp; have := hk3.out; have := hmx.out; omega)
      go_wp2_with fail
      go_ret
      rw [← hres.out] at hown
      exact ⟨A5, c5, by rw [hlen.out]; rfl, by rw [hlen.out]; exact hown, hfin⟩
end Go.Proofs.YtbifoikcmjmdeaaDoor

namespace Go.Proofs.YtbifoikcmjmdeaaDoor
open Go Go.RowKit

theorem ltE_trans {a b c : Edg} (h : ltE a b = true) (h' : ltE b c = true) : ltE a c = true := by
  unfold ltE at *
  (repeat' split at h) <;> (repeat' split at h') <;> (repeat' split) <;> simp only [decide_eq_true_eq] at * <;> omega
theorem ltE_iff {a b : Edg} : ltE a b = true ↔ a.fr < b.fr ∨ a.fr = b.fr ∧ (a.le < b.le ∨ a.le = b.le ∧ a.to < b.to) := by
  unfold ltE
  (repeat' split) <;> simp only [decide_eq_true_eq] <;> omega
/-- Each edge is behind the one ahead of it. -/
def Rising (es : List Edg) : Prop := ∀ (a b : Nat) (x y : Edg), es[a]? = some x → es[b]? = some y → a < b → ltE x y = true
theorem rising_of {es : List Edg} (h : ∀ k x y, es[k]? = some x → es[k + 1]? = some y → ltE x y = true) : Rising es := by
  intro a b x y hx hy hab
  induction b generalizing y with
  | zero => omega
  | succ b ih =>
    have hb := (List.getElem?_eq_some_iff.1 hy).1
    obtain ⟨z, hz⟩ : ∃ z, es[b]? = some z := ⟨_, List.getElem?_eq_getElem (by omega)⟩
    have h1 := h b z y hz hy
    rcases Nat.lt_or_ge a b with h2 | h2
    · exact ltE_trans (ih z hz h2) h1
    · obtain rfl : a = b := by omega
      rw [hx] at hz
      obtain rfl := Option.some.inj hz
      exact h1
theorem valid_iff {s : Sys} : sysValid s = true ↔ (0 ≤ s.al ∧ s.al ≤ 63) ∧ (1 ≤ s.st ∧ s.st ≤ 16) ∧ (∀ e ∈ s.edges, edgB s.al.toNat s.st e = true) ∧ Rising s.edges := by
  simp only [sysValid, Bool.and_eq_true, decide_eq_true_eq, List.all_eq_true, List.mem_range]
  constructor
  · rintro ⟨h1, h2, h3⟩
    refine ⟨h1, h2, fun e he => ?_, rising_of fun k x y hx hy => ?_⟩
    · obtain ⟨k, hk⟩ := List.getElem?_of_mem he
      have := h3 k (List.getElem?_eq_some_iff.1 hk).1
      rw [edgeOK, hk] at this
      simp only [Bool.and_eq_true] at this
      exact this.1
    · have := h3 (k + 1) (List.getElem?_eq_some_iff.1 hy).1
      unfold edgeOK at this
      rw [hy] at this
      simp only [Nat.add_sub_cancel, hx, Bool.and_eq_true, Bool.or_eq_true, decide_eq_true_eq] at this
      rcases this.2 with h | h
      · omega
      · exact h
  · rintro ⟨h1, h2, h3, h4⟩
    refine ⟨h1, h2, fun k hk => ?_⟩
    have hx : s.edges[k]? = some s.edges[k] := List.getElem?_eq_getElem hk
    unfold edgeOK
    rw [hx]
    simp only [Bool.and_eq_true, Bool.or_eq_true, decide_eq_true_eq]
    refine ⟨h3 _ (List.getElem_mem hk), ?_⟩
    cases k with
    | zero => exact Or.inl rfl
    | succ k =>
      have hy : s.edges[k]? = some s.edges[k] := List.getElem?_eq_getElem (by omega)
      simp only [Nat.add_sub_cancel, hy]
      exact Or.inr (h4 k (k + 1) _ _ hy hx (by omega))

/-- How many numbers of a set are below another. -/
def rk (R n : Nat) : Nat := (letters R n).length
theorem rk_succ (R n : Nat) : rk R (n + 1) = rk R n + if R.testBit n then 1 else 0 := by
  unfold rk
  rw [letters_succ, List.length_append]
  cases R.testBit n <;> simp
theorem rk_le (R n : Nat) : rk R n ≤ n := letters_length R n
theorem rk_mono {R a b : Nat} (h : a ≤ b) : rk R a ≤ rk R b := by
  induction b with
  | zero => rw [show a = 0 by omega]; exact Nat.le_refl _
  | succ b ih =>
    rcases Nat.lt_or_ge a (b + 1) with h1 | h1
    · rw [rk_succ]
      have := ih (by omega)
      omega
    · rw [show a = b + 1 by omega]; exact Nat.le_refl _
theorem rk_lt {R a b : Nat} (h : a < b) (ha : R.testBit a = true) : rk R a < rk R b := by
  have h1 := rk_mono (R := R) (show a + 1 ≤ b by omega)
  rw [rk_succ, ha] at h1
  simp at h1
  omega
theorem rk_inj {R a b : Nat} (ha : R.testBit a = true) (hb : R.testBit b = true) (h : rk R a = rk R b) : a = b := by
  rcases Nat.lt_trichotomy a b with h1 | h1 | h1
  · have := rk_lt h1 ha; omega
  · exact h1
  · have := rk_lt h1 hb; omega
/-- An edge between some states, which are numbered anew. -/
def subI (R : Nat) (e : Edg) : Bool := hasB R e.fr && hasB R e.to
def subJ (R : Nat) (e : Edg) : Edg := ⟨rk R e.fr.toNat, e.le, rk R e.to.toNat⟩
def subE (R : Nat) (es : List Edg) : List Edg := (es.filter (subI R)).map (subJ R)
theorem subE_snoc (R : Nat) (es : List Edg) (e : Edg) : subE R (es ++ [e]) = if subI R e then subE R es ++ [subJ R e] else subE R es := by
  unfold subE
  rw [List.filter_append, List.map_append]
  cases h : subI R e <;> simp [h]
/-- A system with only some of its states. -/
def subS (s : Sys) (R : Nat) : Sys := ⟨s.al, rk R 32, subE R s.edges⟩
/-- A set is that of the states that traces lead to. -/
def RchSet (es : List Edg) (p R : Nat) : Prop := R < 2 ^ p ∧ ∀ i, R.testBit i = true ↔ Rch es i
section
variable {es : List Edg} {p R : Nat}
theorem subE_E {a l b : Nat} : E (subE R es) a l b ↔ ∃ i k, R.testBit i = true ∧ R.testBit k = true ∧ E es i l k ∧ rk R i = a ∧ rk R k = b := by
  unfold E subE
  constructor
  · rintro ⟨e, he, h1, h2, h3⟩
    obtain ⟨x, hx, rfl⟩ := List.mem_map.1 he
    rw [List.mem_filter] at hx
    obtain ⟨hx, hi⟩ := hx
    simp only [subI, hasB, Bool.and_eq_true, decide_eq_true_eq] at hi
    simp only [subJ] at h1 h2 h3
    exact ⟨x.fr.toNat, x.to.toNat, hi.1.2, hi.2.2, ⟨x, hx, by omega, h2, by omega⟩, by omega, by omega⟩
  · rintro ⟨i, k, hi, hk, ⟨e, he, h1, h2, h3⟩, h4, h5⟩
    refine ⟨subJ R e, List.mem_map.2 ⟨e, List.mem_filter.2 ⟨he, ?_⟩, rfl⟩, ?_, h2, ?_⟩
    · simp only [subI, hasB, Bool.and_eq_true, decide_eq_true_eq]
      rw [h1, h3]
      exact ⟨⟨by omega, hi⟩, ⟨by omega, hk⟩⟩
    · simp only [subJ]; rw [h1, show ((i : Nat) : Int).toNat = i from rfl, h4]
    · simp only [subJ]; rw [h3, show ((k : Nat) : Int).toNat = k from rfl, h5]
/-- Without its unreachable states a system is bisimilar to itself. -/
theorem trim_bis (hp2 : p ≤ 32) (hR : RchSet es p R) {G : List Nat} (hG : Gfp true es (subE R es) p (rk R 32) G) : rel G 0 0 := by
  have lt : ∀ i, R.testBit i = true → i < p := fun i h => by
    rcases Nat.lt_or_ge i p with h1 | h1
    · exact h1
    · have := Nat.testBit_lt_two_pow (Nat.lt_of_lt_of_le hR.1 (Nat.pow_le_pow_right (by omega) h1))
      rw [this] at h; cases h
  have h0 : R.testBit 0 = true := (hR.2 0).2 .zero
  refine hG.great (fun i a => R.testBit i = true ∧ a = rk R i) ?_ 0 0 ⟨h0, rfl⟩
  rintro i a ⟨hi, rfl⟩
  refine ⟨lt i hi, rk_lt (by have := lt i hi; omega) hi, fun l k hk => ?_, fun _ l b hb => ?_⟩
  · have hk' : R.testBit k = true := (hR.2 k).2 (((hR.2 i).1 hi).step hk)
    exact ⟨rk R k, subE_E.2 ⟨i, k, hi, hk', hk, rfl, rfl⟩, hk', rfl⟩
  · obtain ⟨i', k, hi', hk, he, h1, h2⟩ := subE_E.1 hb
    obtain rfl := rk_inj hi' hi h1
    exact ⟨k, he, hk, h2.symm⟩
theorem subE_rising (hr : Rising es) : Rising (subE R es) := by
  have hp : es.Pairwise (fun x y => ltE x y = true) := by
    rw [List.pairwise_iff_getElem]
    intro i j hi hj hij
    exact hr i j _ _ (List.getElem?_eq_getElem hi) (List.getElem?_eq_getElem hj) hij
  have h2 : (subE R es).Pairwise (fun x y => ltE x y = true) := by
    unfold subE
    rw [List.pairwise_map]
    have h3 := hp.filter (subI R)
    have h4 : (es.filter (subI R)).Pairwise (fun x y => subI R x = true ∧ subI R y = true ∧ ltE x y = true) := by
      rw [List.pairwise_iff_getElem] at h3 ⊢
      intro i j hi hj hij
      exact ⟨(List.mem_filter.1 (List.getElem_mem hi)).2, (List.mem_filter.1 (List.getElem_mem hj)).2, h3 i j hi hj hij⟩
    refine h4.imp ?_
    rintro x y ⟨hx, hy, h⟩
    simp only [subI, hasB, Bool.and_eq_true, decide_eq_true_eq] at hx hy
    rw [ltE_iff] at h ⊢
    simp only [subJ]
    have k1 : x.fr < y.fr → rk R x.fr.toNat < rk R y.fr.toNat := fun h => rk_lt (by omega) hx.1.2
    have k2 : x.to < y.to → rk R x.to.toNat < rk R y.to.toNat := fun h => rk_lt (by omega) hx.2.2
    have k3 : x.fr = y.fr → rk R x.fr.toNat = rk R y.fr.toNat := fun h => by rw [h]
    rcases h with h | ⟨h1, h | ⟨h2, h⟩⟩
    · have := k1 h
      omega
    · have := k3 h1
      omega
    · have := k3 h1
      have := k2 h
      omega
  intro a b x y hx hy hab
  obtain ⟨ha, rfl⟩ := List.getElem?_eq_some_iff.1 hx
  obtain ⟨hb, rfl⟩ := List.getElem?_eq_some_iff.1 hy
  exact List.pairwise_iff_getElem.1 h2 a b ha hb hab
end
theorem sub_valid {s : Sys} {p R : Nat} (h : sysValid s = true) (hp : s.st = p) (hR : RchSet s.edges p R) : sysValid (subS s R) = true := by
  obtain ⟨h1, h2, h3, h4⟩ := valid_iff.1 h
  have hrp : rk R 32 ≤ 16 := by
    have : ∀ d, rk R (16 + d) ≤ 16 := by
      intro d
      induction d with
      | zero => exact rk_le R 16
      | succ d ih =>
        rw [show 16 + (d + 1) = 16 + d + 1 by omega, rk_succ]
        have hb : R.testBit (16 + d) = false := Nat.testBit_lt_two_pow (Nat.lt_of_lt_of_le hR.1 (Nat.pow_le_pow_right (by omega) (by omega)))
        rw [hb]
        simpa using ih
    exact this 16
  have hr1 : 0 < rk R 32 := by
    have := rk_lt (R := R) (show 0 < 32 by omega) ((hR.2 0).2 .zero)
    omega
  have hlt : ∀ i, R.testBit i = true → rk R i < rk R 32 := fun i hi => by
    refine rk_lt ?_ hi
    rcases Nat.lt_or_ge i 32 with h | h
    · exact h
    · have : R.testBit i = false := Nat.testBit_lt_two_pow (Nat.lt_of_lt_of_le hR.1 (Nat.pow_le_pow_right (by omega) (by omega)))
      rw [this] at hi; cases hi
  refine valid_iff.2 ⟨h1, ⟨by simp only [subS]; omega, by simp only [subS]; omega⟩, fun e he => ?_, subE_rising h4⟩
  obtain ⟨x, hx, rfl⟩ := List.mem_map.1 he
  obtain ⟨hx, hi⟩ := List.mem_filter.1 hx
  have := h3 x hx
  simp only [subI, edgB, subS, subJ, hasB, Bool.and_eq_true, decide_eq_true_eq] at hi this ⊢
  have a1 := hlt _ hi.1.2
  have a2 := hlt _ hi.2.2
  exact ⟨⟨decide_eq_true (by omega), decide_eq_true (by omega)⟩, ⟨decide_eq_true (by omega), decide_eq_true (by omega)⟩, decide_eq_true this.2.2.1, decide_eq_true this.2.2.2.1, this.2.2.2.2⟩
theorem simB_rel2 {both : Bool} {s t : Sys} (h : sameB s t = true) : simB both s t = true ↔ rel (gfp both s t) 0 0 := by
  unfold simB
  rw [h, Bool.true_and]
  exact ⟨fun x => rel_getD x, fun x => x.2⟩
theorem gfp_at {both : Bool} {s t : Sys} {p q : Nat} (hp : s.st = p) (hq : t.st = q) : Gfp both s.edges t.edges p q (gfp both s t) := by
  have := gfp_spec both s t
  rw [hp, hq] at this
  exact this
/-- Trimming does not matter for simulation. -/
theorem trim_sim {s t : Sys} {p q R T : Nat} (h : sameB s t = true) (hp : s.st = p) (hq : t.st = q) (hR : RchSet s.edges p R) (hT : RchSet t.edges q T) : simB false (subS s R) (subS t T) = simB false s t := by
  obtain ⟨v1, v2, v3⟩ := same_valid h
  have w1 := sub_valid v1 hp hR
  have w2 := sub_valid v2 hq hT
  have h' : sameB (subS s R) (subS t T) = true := by
    simp only [sameB, w1, w2, Bool.true_and, beq_iff_eq]
    exact v3
  obtain ⟨p', hp', p1, p2, hf⟩ := valid_few v1
  obtain ⟨q', hq', q1, q2, hg⟩ := valid_few v2
  obtain rfl : p' = p := by omega
  obtain rfl : q' = q := by omega
  have A := gfp_at (both := true) hp' (show (subS s R).st = (rk R 32 : Nat) from rfl)
  have B := gfp_at (both := true) hq' (show (subS t T).st = (rk T 32 : Nat) from rfl)
  have A' := gfp_at (both := true) (show (subS s R).st = (rk R 32 : Nat) from rfl) hp'
  have B' := gfp_at (both := true) (show (subS t T).st = (rk T 32 : Nat) from rfl) hq'
  have a0 := trim_bis (by omega) hR A
  have b0 := trim_bis (by omega) hT B
  have a0' := A.symm A' a0
  have b0' := B.symm B' b0
  have fA := gfp_at (both := false) hp' (show (subS s R).st = (rk R 32 : Nat) from rfl)
  have fB := gfp_at (both := false) hq' (show (subS t T).st = (rk T 32 : Nat) from rfl)
  have fA' := gfp_at (both := false) (show (subS s R).st = (rk R 32 : Nat) from rfl) hp'
  have fB' := gfp_at (both := false) (show (subS t T).st = (rk T 32 : Nat) from rfl) hq'
  have a1 := A.weak fA a0
  have b1 := B.weak fB b0
  have a2 := A'.weak fA' a0'
  have b2 := B'.weak fB' b0'
  have M := gfp_at (both := false) hp' hq'
  have M' := gfp_at (both := false) (show (subS s R).st = (rk R 32 : Nat) from rfl) (show (subS t T).st = (rk T 32 : Nat) from rfl)
  have X := gfp_at (both := false) (show (subS s R).st = (rk R 32 : Nat) from rfl) hq'
  have Y := gfp_at (both := false) hp' (show (subS t T).st = (rk T 32 : Nat) from rfl)
  rw [Bool.eq_iff_iff, simB_rel2 h, simB_rel2 h']
  constructor
  · intro r
    exact Y.trans fB' M (fA.trans M' Y a1 r) b2
  · intro r
    exact X.trans fB M' (fA'.trans M X a2 r) b1
end Go.Proofs.YtbifoikcmjmdeaaDoor

namespace Go.Proofs.YtbifoikcmjmdeaaDoor
open Go Go.RowKit
set_option maxHeartbeats 4000000

theorem letters_rise (a : Nat) : Rise (letters a 6) := by
  refine ⟨fun l hl => (mem_letters.1 hl).1, fun i j x y hx hy hij => ?_⟩
  have h1 : (letters a 6).Pairwise (· < ·) := List.Pairwise.filter _ List.pairwise_lt_range
  obtain ⟨hi, rfl⟩ := List.getElem?_eq_some_iff.1 hx
  obtain ⟨hj, rfl⟩ := List.getElem?_eq_some_iff.1 hy
  exact List.pairwise_iff_getElem.1 h1 i j hi hj hij
/-- Some trace of one system is none of another. -/
noncomputable def outB (s t : Sys) : Bool := sameB s t && @decide (¬ Lost (dW s.edges t.edges (2 ^ t.st.toNat)) [1] (fun n => n % 2 ^ t.st.toNat == 0) (letters s.al.toNat 6)) (Classical.propDecidable _)
theorem outB_true {s t : Sys} {Z : Nat} {L v : List Nat} (h : sameB s t = true) (hZ : Z = 2 ^ t.st.toNat) (hL : L = letters s.al.toNat 6) (hF : Found (dW s.edges t.edges Z) [1] (fun n => n % Z == 0) L v) : outB s t = true := by
  subst hZ hL
  unfold outB
  rw [h, Bool.true_and]
  refine @decide_eq_true _ (Classical.propDecidable _) fun hl => ?_
  obtain ⟨h1, ⟨x, hx, hg⟩, _⟩ := hF
  have := hl v h1 x hx
  rw [hg] at this
  cases this
theorem outB_false {s t : Sys} {Z : Nat} {L : List Nat} (h : sameB s t = true) (hZ : Z = 2 ^ t.st.toNat) (hL : L = letters s.al.toNat 6) (hF : Lost (dW s.edges t.edges Z) [1] (fun n => n % Z == 0) L) : outB s t = false := by
  subst hZ hL
  unfold outB
  rw [h, Bool.true_and]
  exact @decide_eq_false _ (Classical.propDecidable _) fun hn => hn hF
theorem Blk.ne {w : World} {a b : Nat} {t u : TypeId} {cs ds : Array Value} (h : Blk w a t cs) (h' : Blk w b u ds) (ht : t ≠ u) : a ≠ b := by
  rintro rfl
  unfold Blk at h h'
  rw [h] at h'
  injection h' with h'
  injection h' with _ h2
  exact ht h2
theorem MovB.set {w : World} {b g : Nat} {es : List Edg} {cs : Array Value} {v : Value} (h : MovB w b es) (hg : Blk w g 65 cs) : MovB (w.setCell ⟨g, 0, none⟩ v) b es := by
  obtain ⟨ds, hb, hc⟩ := h
  exact ⟨ds, hb.frm (Frm.setCell w g 0 v) (hb.ne hg (by decide)), hc⟩
theorem ptr_set {w : World} {g b : Nat} {v : Value} (h : Blk w g 65 #[v]) : Blk (w.setCell ⟨g, 0, none⟩ (.pointer (some ⟨b, 0, none⟩))) g 65 #[.pointer (some ⟨b, 0, none⟩)] := by
  simpa using h.set_ 0 (.pointer (some ⟨b, 0, none⟩))
theorem one_at {w : World} {g x : Nat} (h : Blk w g 3 #[.int .i64 (x : Nat)]) : IntsAt w (some ⟨g, 0, none⟩) 1 [x] := by
  refine ⟨rfl, by omega, fun _ => ⟨g, 0, _, rfl, h, fun j y hj => ?_⟩⟩
  cases j with
  | zero =>
    obtain rfl := Option.some.inj hj
    rw [h.cell]; rfl
  | succ j => simp at hj
/-- What FirstTraceOutside answers. -/
def RetOut (w : World) (s t : Sys) (e : Ending) (w' : World) : Prop := ∃ v, e = .returned (.tuple #[.string v, .bool (outB s t)]) ∧ Ext w w'
set_option maxRecDepth 100000 in
theorem impl_FirstTraceOutside {lo hi lo' hi' : Nat} {A : Option Addr} {n c : Nat} {B : Option Addr} {m d : Nat} {s t : Sys} {w : World} (h : SysAt w lo hi A n s) (h' : SysAt w lo' hi' B m t) (hT : Tab w) :
    Calls Tryd.prog 34 #[.agg #[.int .i64 s.al, .int .i64 s.st, .slice A n c], .agg #[.int .i64 t.al, .int .i64 t.st, .slice B m d]] w (RetOut w s t) := by
  have HS := hide (fun W (hW : Ext w W) => h.ext hW)
  have HT := hide (fun W (hW : Ext w W) => h'.ext hW)
  have HTab := hide (fun W (hW : Ext w W) => hT.ext hW)
  clear h h' hT
  cases h1 : sameB s t
  · have H1 := hide h1
    have ho := hide (show outB s t = false by unfold outB; rw [h1]; rfl)
    clear h1
    go_enter Tryd.func34, Tryd.ntmps34
    go_wp2_with (go_at_call 25; refine (impl_sameAlphabets (HS.out _ (((Ext.refl _).alloc _).alloc _)) (HT.out _ (((Ext.refl _).alloc _).alloc _))).mono ?_; rw [H1.out]; rintro e w1 ⟨rfl, hx⟩)
    go_ret2
    exact ⟨ByteArray.empty, by rw [ho.out]; rfl, (((Ext.refl _).alloc _).alloc _).trans hx⟩
  · obtain ⟨v1, v2, -⟩ := same_valid h1
    obtain ⟨p, hp, hp1, hp2, hf⟩ := valid_few v1
    obtain ⟨q, hq, hq1, hq2, hg⟩ := valid_few v2
    obtain ⟨al, hal, hal2⟩ : ∃ al : Nat, s.al = al ∧ al < 64 := ⟨s.al.toNat, by have := (valid_iff.1 v1).1; omega, by have := (valid_iff.1 v1).1; omega⟩
    have H1 := hide h1
    have Hf := hide hf
    have Hg := hide hg
    have Hp := hide hp
    have Hq := hide hq
    have Hal := hide hal
    clear h1 v1 v2 hf hg hp hq hal
    go_enter Tryd.func34, Tryd.ntmps34
    go_wp2_with fail
    refine (impl_sameAlphabets (HS.out _ (((Ext.refl _).alloc _).alloc _)) (HT.out _ (((Ext.refl _).alloc _).alloc _))).mono ?_
    rw [H1.out]
    rintro e w1 ⟨rfl, hx⟩
    obtain ⟨b1, b2⟩ := ext_blk2 hx
    have hw1 := (((Ext.refl w).alloc _).alloc _).trans hx
    have c1 := fun W (hW : Ext w1 W) => (b1.ext hW).cell
    have c2 := fun W (hW : Ext w1 W) => (b2.ext hW).cell
    have hww := Ext.refl w1
    have hmA := hide (fun W (hW : Ext w1 W) => impl_movesOf (c := c) (HS.out _ (hw1.trans hW)) (fun e he => by have := Hf.out e he; omega))
    have hmB := hide (fun W (hW : Ext w1 W) => impl_movesOf (c := d) (HT.out _ (hw1.trans hW)) (fun e he => by have := Hg.out e he; omega))
    go_upto_region 3 with fail
    go_cut [6, 7] (fun v6 v7 wx => ∃ g6 g7 bm bn : Nat, v6 = .pointer (some ⟨g6, 0, none⟩) ∧ v7 = .pointer (some ⟨g7, 0, none⟩) ∧ Ext w1 wx ∧ Blk wx g6 65 #[.pointer (some ⟨bm, 0, none⟩)] ∧ Blk wx g7 65 #[.pointer (some ⟨bn, 0, none⟩)] ∧ MovB wx bm s.edges ∧ MovB wx bn t.edges)
    case first =>
      refine wp_region_tailU (fun X => Ext w1 X) [3, 6, 7] (OrdU.app [0, 2] (OrdU.three 1 (OrdU.three 3 (OrdU.two 4 (OrdU.of [5, 6, 7]) 5 (OrdU.of [4, 6, 7])) 4 (OrdU.two 3 (OrdU.of [5, 6, 7]) 5 (OrdU.of [3, 6, 7])) 5 (OrdU.two 3 (OrdU.of [4, 6, 7]) 4 (OrdU.of [3, 6, 7]))) 4 (OrdU.two 1 (OrdU.two 3 (OrdU.of [5, 6, 7]) 5 (OrdU.of [3, 6, 7])) 5 (OrdU.of [1, 3, 6, 7])) 5 (OrdU.two 1 (OrdU.two 3 (OrdU.of [4, 6, 7]) 4 (OrdU.of [3, 6, 7])) 4 (OrdU.of [1, 3, 6, 7])))) (by kernel_rfl) (by kernel_rfl) (by kernel_rfl) (by kernel_rfl) (by kernel_rfl) (fun _ _ _ _ _ h => h) (by first | assumption | exact (Ext.refl _).drew | (refine Ext.drew ?_; assumption)) ?_
      repeat (first | (refine useq_skip rfl rfl (by assumption) ?_; simp only [Act.put, List.setIfInBounds_toArray, List.set_cons_zero, List.set_cons_succ]) | (refine useq_pure (v := ?_) rfl rfl rfl rfl (fun X => ?_) ?_; rotate_left; (focus (go_simp <;> with_reducible rfl)); simp only [Act.put, List.setIfInBounds_toArray, List.set_cons_zero, List.set_cons_succ]) | (refine useq_read (v := ?_) rfl rfl rfl rfl (fun X hX => ?_) ?_; rotate_left; (focus (go_simp <;> with_reducible rfl)); simp only [Act.put, List.setIfInBounds_toArray, List.set_cons_zero, List.set_cons_succ]))
      have hx0 : Ext w1 w1.drew := hww.drew
      generalize w1.drew = wd at *
      refine useq_three rfl rfl rfl rfl rfl rfl (fun K hK => ?_) (fun K hK => ?_) (fun K hK => ?_)
      · go_simp
        refine (hmA.out _ hx0).mono ?_
        rintro e w10 ⟨bm, rfl, _, hMm, hx1⟩
        replace hx0 := hx0.trans hx1
        clear hx1
        refine hK.out _ _ hx0 ?_
        (try simp only [Act.put, List.setIfInBounds_toArray, List.set_cons_zero, List.set_cons_succ])
        refine useq_three rfl rfl rfl rfl rfl rfl (fun K hK => ?_) (fun K hK => ?_) (fun K hK => ?_)
        · go_simp
          refine (hmB.out _ hx0).mono ?_
          rintro e w11 ⟨bn, rfl, _, hMn, hx1⟩
          replace hx0 := hx0.trans hx1
          replace hMm := hMm.ext hx1
          clear hx1
          refine hK.out _ _ hx0 ?_
          (try simp only [Act.put, List.setIfInBounds_toArray, List.set_cons_zero, List.set_cons_succ])
          refine useq_both rfl rfl rfl rfl (fun K hK => ?_) (fun K hK => ?_)
          · go_simp
            have hl6 := hx0.size
            have hx1 := (Ext.refl w11).alloc (.cells #[.pointer none] 65)
            replace hx0 := hx0.trans hx1
            replace hMm := hMm.ext hx1
            replace hMn := hMn.ext hx1
            clear hx1
            have h6 := Blk.new w11 65 #[.pointer none]
            refine hK.out _ _ hx0 ?_
            generalize w11.alloc (.cells #[.pointer none] 65) = w12 at *
            generalize w11.heap.size = g6 at *
            (try simp only [Act.put, List.setIfInBounds_toArray, List.set_cons_zero, List.set_cons_succ])
            (refine useq_step rfl rfl rfl (fun K hK => ?_); go_simp)
            have hl7 := hx0.size
            have hne := Nat.ne_of_lt h6.lt
            have hx1 := (Ext.refl w12).alloc (.cells #[.pointer none] 65)
            replace hx0 := hx0.trans hx1
            replace hMm := hMm.ext hx1
            replace hMn := hMn.ext hx1
            replace h6 := h6.ext hx1
            clear hx1
            have h7 := Blk.new w12 65 #[.pointer none]
            refine hK.out _ _ hx0 ?_
            generalize w12.alloc (.cells #[.pointer none] 65) = w13 at *
            generalize w12.heap.size = g7 at *
            (try simp only [Act.put, List.setIfInBounds_toArray, List.set_cons_zero, List.set_cons_succ])
            have cG := h6.cell
            have fG := h6.frozen
            refine useq_step rfl rfl rfl (fun K hK => ?_)
            go_simp
            clear cG fG
            replace hMm := hMm.set (v := .pointer (some ⟨bm, 0, none⟩)) h6
            replace hMn := hMn.set (v := .pointer (some ⟨bm, 0, none⟩)) h6
            replace h7 := h7.frm (Frm.setCell w13 g6 0 (.pointer (some ⟨bm, 0, none⟩))) (by omega)
            replace h6 := ptr_set (b := bm) h6
            replace hx0 := hx0.setCell (p := ⟨g6, 0, none⟩) hl6 (.pointer (some ⟨bm, 0, none⟩))
            refine hK.out _ _ hx0 ?_
            generalize w13.setCell ⟨g6, 0, none⟩ (.pointer (some ⟨bm, 0, none⟩)) = w14 at *
            (try simp only [Act.put, List.setIfInBounds_toArray, List.set_cons_zero, List.set_cons_succ])
            have cG := h7.cell
            have fG := h7.frozen
            refine useq_step rfl rfl rfl (fun K hK => ?_)
            go_simp
            clear cG fG
            replace hMm := hMm.set (v := .pointer (some ⟨bn, 0, none⟩)) h7
            replace hMn := hMn.set (v := .pointer (some ⟨bn, 0, none⟩)) h7
            replace h6 := h6.frm (Frm.setCell w14 g7 0 (.pointer (some ⟨bn, 0, none⟩))) (by omega)
            replace h7 := ptr_set (b := bn) h7
            replace hx0 := hx0.setCell (p := ⟨g7, 0, none⟩) hl7 (.pointer (some ⟨bn, 0, none⟩))
            refine hK.out _ _ hx0 ?_
            generalize w14.setCell ⟨g7, 0, none⟩ (.pointer (some ⟨bn, 0, none⟩)) = w15 at *
            (try simp only [Act.put, List.setIfInBounds_toArray, List.set_cons_zero, List.set_cons_succ])
            refine useq_nil ?_
            go_wp2_with fail
            go_meet
            exact ⟨g6, g7, bm, bn, rfl, rfl, hx0, h6, h7, hMm, hMn⟩
          · go_simp
            have hl7 := hx0.size
            have hx1 := (Ext.refl w11).alloc (.cells #[.pointer none] 65)
            replace hx0 := hx0.trans hx1
            replace hMm := hMm.ext hx1
            replace hMn := hMn.ext hx1
            clear hx1
            have h7 := Blk.new w11 65 #[.pointer none]
            refine hK.out _ _ hx0 ?_
            generalize w11.alloc (.cells #[.pointer none] 65) = w12 at *
            generalize w11.heap.size = g7 at *
            (try simp only [Act.put, List.setIfInBounds_toArray, List.set_cons_zero, List.set_cons_succ])
            (refine useq_step rfl rfl rfl (fun K hK => ?_); go_simp)
            have hl6 := hx0.size
            have hne := Nat.ne_of_lt h7.lt
            have hx1 := (Ext.refl w12).alloc (.cells #[.pointer none] 65)
            replace hx0 := hx0.trans hx1
            replace hMm := hMm.ext hx1
            replace hMn := hMn.ext hx1
            replace h7 := h7.ext hx1
            clear hx1
            have h6 := Blk.new w12 65 #[.pointer none]
            refine hK.out _ _ hx0 ?_
            generalize w12.alloc (.cells #[.pointer none] 65) = w13 at *
            generalize w12.heap.size = g6 at *
            (try simp only [Act.put, List.setIfInBounds_toArray, List.set_cons_zero, List.set_cons_succ])
            have cG := h6.cell
            have fG := h6.frozen
            refine useq_step rfl rfl rfl (fun K hK => ?_)
            go_simp
            clear cG fG
            replace hMm := hMm.set (v := .pointer (some ⟨bm, 0, none⟩)) h6
            replace hMn := hMn.set (v := .pointer (some ⟨bm, 0, none⟩)) h6
            replace h7 := h7.frm (Frm.setCell w13 g6 0 (.pointer (some ⟨bm, 0, none⟩))) (by omega)
            replace h6 := ptr_set (b := bm) h6
            replace hx0 := hx0.setCell (p := ⟨g6, 0, none⟩) hl6 (.pointer (some ⟨bm, 0, none⟩))
            refine hK.out _ _ hx0 ?_
            generalize w13.setCell ⟨g6, 0, none⟩ (.pointer (some ⟨bm, 0, none⟩)) = w14 at *
            (try simp only [Act.put, List.setIfInBounds_toArray, List.set_cons_zero, List.set_cons_succ])
            have cG := h7.cell
            have fG := h7.frozen
            refine useq_step rfl rfl rfl (fun K hK => ?_)
            go_simp
            clear cG fG
            replace hMm := hMm.set (v := .pointer (some ⟨bn, 0, none⟩)) h7
            replace hMn := hMn.set (v := .pointer (some ⟨bn, 0, none⟩)) h7
            replace h6 := h6.frm (Frm.setCell w14 g7 0 (.pointer (some ⟨bn, 0, none⟩))) (by omega)
            replace h7 := ptr_set (b := bn) h7
            replace hx0 := hx0.setCell (p := ⟨g7, 0, none⟩) hl7 (.pointer (some ⟨bn, 0, none⟩))
            refine hK.out _ _ hx0 ?_
            generalize w14.setCell ⟨g7, 0, none⟩ (.pointer (some ⟨bn, 0, none⟩)) = w15 at *
            (try simp only [Act.put, List.setIfInBounds_toArray, List.set_cons_zero, List.set_cons_succ])
            refine useq_nil ?_
            go_wp2_with fail
            go_meet
            exact ⟨g6, g7, bm, bn, rfl, rfl, hx0, h6, h7, hMm, hMn⟩
        · go_simp
          have hl6 := hx0.size
          have hx1 := (Ext.refl w10).alloc (.cells #[.pointer none] 65)
          replace hx0 := hx0.trans hx1
          replace hMm := hMm.ext hx1
          clear hx1
          have h6 := Blk.new w10 65 #[.pointer none]
          refine hK.out _ _ hx0 ?_
          generalize w10.alloc (.cells #[.pointer none] 65) = w11 at *
          generalize w10.heap.size = g6 at *
          (try simp only [Act.put, List.setIfInBounds_toArray, List.set_cons_zero, List.set_cons_succ])
          refine useq_both rfl rfl rfl rfl (fun K hK => ?_) (fun K hK => ?_)
          · go_simp
            refine (hmB.out _ hx0).mono ?_
            rintro e w12 ⟨bn, rfl, _, hMn, hx1⟩
            replace hx0 := hx0.trans hx1
            replace hMm := hMm.ext hx1
            replace h6 := h6.ext hx1
            clear hx1
            refine hK.out _ _ hx0 ?_
            (try simp only [Act.put, List.setIfInBounds_toArray, List.set_cons_zero, List.set_cons_succ])
            (refine useq_step rfl rfl rfl (fun K hK => ?_); go_simp)
            have hl7 := hx0.size
            have hne := Nat.ne_of_lt h6.lt
            have hx1 := (Ext.refl w12).alloc (.cells #[.pointer none] 65)
            replace hx0 := hx0.trans hx1
            replace hMm := hMm.ext hx1
            replace hMn := hMn.ext hx1
            replace h6 := h6.ext hx1
            clear hx1
            have h7 := Blk.new w12 65 #[.pointer none]
            refine hK.out _ _ hx0 ?_
            generalize w12.alloc (.cells #[.pointer none] 65) = w13 at *
            generalize w12.heap.size = g7 at *
            (try simp only [Act.put, List.setIfInBounds_toArray, List.set_cons_zero, List.set_cons_succ])
            have cG := h6.cell
            have fG := h6.frozen
            refine useq_step rfl rfl rfl (fun K hK => ?_)
            go_simp
            clear cG fG
            replace hMm := hMm.set (v := .pointer (some ⟨bm, 0, none⟩)) h6
            replace hMn := hMn.set (v := .pointer (some ⟨bm, 0, none⟩)) h6
            replace h7 := h7.frm (Frm.setCell w13 g6 0 (.pointer (some ⟨bm, 0, none⟩))) (by omega)
            replace h6 := ptr_set (b := bm) h6
            replace hx0 := hx0.setCell (p := ⟨g6, 0, none⟩) hl6 (.pointer (some ⟨bm, 0, none⟩))
            refine hK.out _ _ hx0 ?_
            generalize w13.setCell ⟨g6, 0, none⟩ (.pointer (some ⟨bm, 0, none⟩)) = w14 at *
            (try simp only [Act.put, List.setIfInBounds_toArray, List.set_cons_zero, List.set_cons_succ])
            have cG := h7.cell
            have fG := h7.frozen
            refine useq_step rfl rfl rfl (fun K hK => ?_)
            go_simp
            clear cG fG
            replace hMm := hMm.set (v := .pointer (some ⟨bn, 0, none⟩)) h7
            replace hMn := hMn.set (v := .pointer (some ⟨bn, 0, none⟩)) h7
            replace h6 := h6.frm (Frm.setCell w14 g7 0 (.pointer (some ⟨bn, 0, none⟩))) (by omega)
            replace h7 := ptr_set (b := bn) h7
            replace hx0 := hx0.setCell (p := ⟨g7, 0, none⟩) hl7 (.pointer (some ⟨bn, 0, none⟩))
            refine hK.out _ _ hx0 ?_
            generalize w14.setCell ⟨g7, 0, none⟩ (.pointer (some ⟨bn, 0, none⟩)) = w15 at *
            (try simp only [Act.put, List.setIfInBounds_toArray, List.set_cons_zero, List.set_cons_succ])
            refine useq_nil ?_
            go_wp2_with fail
            go_meet
            exact ⟨g6, g7, bm, bn, rfl, rfl, hx0, h6, h7, hMm, hMn⟩
          · go_simp
            have hl7 := hx0.size
            have hne := Nat.ne_of_lt h6.lt
            have hx1 := (Ext.refl w11).alloc (.cells #[.pointer none] 65)
            replace hx0 := hx0.trans hx1
            replace hMm := hMm.ext hx1
            replace h6 := h6.ext hx1
            clear hx1
            have h7 := Blk.new w11 65 #[.pointer none]
            refine hK.out _ _ hx0 ?_
            generalize w11.alloc (.cells #[.pointer none] 65) = w12 at *
            generalize w11.heap.size = g7 at *
            (try simp only [Act.put, List.setIfInBounds_toArray, List.set_cons_zero, List.set_cons_succ])
            (refine useq_step rfl rfl rfl (fun K hK => ?_); go_simp)
            refine (hmB.out _ hx0).mono ?_
            rintro e w13 ⟨bn, rfl, _, hMn, hx1⟩
            replace hx0 := hx0.trans hx1
            replace hMm := hMm.ext hx1
            replace h6 := h6.ext hx1
            replace h7 := h7.ext hx1
            clear hx1
            refine hK.out _ _ hx0 ?_
            (try simp only [Act.put, List.setIfInBounds_toArray, List.set_cons_zero, List.set_cons_succ])
            have cG := h6.cell
            have fG := h6.frozen
            refine useq_step rfl rfl rfl (fun K hK => ?_)
            go_simp
            clear cG fG
            replace hMm := hMm.set (v := .pointer (some ⟨bm, 0, none⟩)) h6
            replace hMn := hMn.set (v := .pointer (some ⟨bm, 0, none⟩)) h6
            replace h7 := h7.frm (Frm.setCell w13 g6 0 (.pointer (some ⟨bm, 0, none⟩))) (by omega)
            replace h6 := ptr_set (b := bm) h6
            replace hx0 := hx0.setCell (p := ⟨g6, 0, none⟩) hl6 (.pointer (some ⟨bm, 0, none⟩))
            refine hK.out _ _ hx0 ?_
            generalize w13.setCell ⟨g6, 0, none⟩ (.pointer (some ⟨bm, 0, none⟩)) = w14 at *
            (try simp only [Act.put, List.setIfInBounds_toArray, List.set_cons_zero, List.set_cons_succ])
            have cG := h7.cell
            have fG := h7.frozen
            refine useq_step rfl rfl rfl (fun K hK => ?_)
            go_simp
            clear cG fG
            replace hMm := hMm.set (v := .pointer (some ⟨bn, 0, none⟩)) h7
            replace hMn := hMn.set (v := .pointer (some ⟨bn, 0, none⟩)) h7
            replace h6 := h6.frm (Frm.setCell w14 g7 0 (.pointer (some ⟨bn, 0, none⟩))) (by omega)
            replace h7 := ptr_set (b := bn) h7
            replace hx0 := hx0.setCell (p := ⟨g7, 0, none⟩) hl7 (.pointer (some ⟨bn, 0, none⟩))
            refine hK.out _ _ hx0 ?_
            generalize w14.setCell ⟨g7, 0, none⟩ (.pointer (some ⟨bn, 0, none⟩)) = w15 at *
            (try simp only [Act.put, List.setIfInBounds_toArray, List.set_cons_zero, List.set_cons_succ])
            refine useq_nil ?_
            go_wp2_with fail
            go_meet
            exact ⟨g6, g7, bm, bn, rfl, rfl, hx0, h6, h7, hMm, hMn⟩
        · go_simp
          have hl7 := hx0.size
          have hx1 := (Ext.refl w10).alloc (.cells #[.pointer none] 65)
          replace hx0 := hx0.trans hx1
          replace hMm := hMm.ext hx1
          clear hx1
          have h7 := Blk.new w10 65 #[.pointer none]
          refine hK.out _ _ hx0 ?_
          generalize w10.alloc (.cells #[.pointer none] 65) = w11 at *
          generalize w10.heap.size = g7 at *
          (try simp only [Act.put, List.setIfInBounds_toArray, List.set_cons_zero, List.set_cons_succ])
          refine useq_both rfl rfl rfl rfl (fun K hK => ?_) (fun K hK => ?_)
          · go_simp
            refine (hmB.out _ hx0).mono ?_
            rintro e w12 ⟨bn, rfl, _, hMn, hx1⟩
            replace hx0 := hx0.trans hx1
            replace hMm := hMm.ext hx1
            replace h7 := h7.ext hx1
            clear hx1
            refine hK.out _ _ hx0 ?_
            (try simp only [Act.put, List.setIfInBounds_toArray, List.set_cons_zero, List.set_cons_succ])
            (refine useq_step rfl rfl rfl (fun K hK => ?_); go_simp)
            have hl6 := hx0.size
            have hne := Nat.ne_of_lt h7.lt
            have hx1 := (Ext.refl w12).alloc (.cells #[.pointer none] 65)
            replace hx0 := hx0.trans hx1
            replace hMm := hMm.ext hx1
            replace hMn := hMn.ext hx1
            replace h7 := h7.ext hx1
            clear hx1
            have h6 := Blk.new w12 65 #[.pointer none]
            refine hK.out _ _ hx0 ?_
            generalize w12.alloc (.cells #[.pointer none] 65) = w13 at *
            generalize w12.heap.size = g6 at *
            (try simp only [Act.put, List.setIfInBounds_toArray, List.set_cons_zero, List.set_cons_succ])
            have cG := h6.cell
            have fG := h6.frozen
            refine useq_step rfl rfl rfl (fun K hK => ?_)
            go_simp
            clear cG fG
            replace hMm := hMm.set (v := .pointer (some ⟨bm, 0, none⟩)) h6
            replace hMn := hMn.set (v := .pointer (some ⟨bm, 0, none⟩)) h6
            replace h7 := h7.frm (Frm.setCell w13 g6 0 (.pointer (some ⟨bm, 0, none⟩))) (by omega)
            replace h6 := ptr_set (b := bm) h6
            replace hx0 := hx0.setCell (p := ⟨g6, 0, none⟩) hl6 (.pointer (some ⟨bm, 0, none⟩))
            refine hK.out _ _ hx0 ?_
            generalize w13.setCell ⟨g6, 0, none⟩ (.pointer (some ⟨bm, 0, none⟩)) = w14 at *
            (try simp only [Act.put, List.setIfInBounds_toArray, List.set_cons_zero, List.set_cons_succ])
            have cG := h7.cell
            have fG := h7.frozen
            refine useq_step rfl rfl rfl (fun K hK => ?_)
            go_simp
            clear cG fG
            replace hMm := hMm.set (v := .pointer (some ⟨bn, 0, none⟩)) h7
            replace hMn := hMn.set (v := .pointer (some ⟨bn, 0, none⟩)) h7
            replace h6 := h6.frm (Frm.setCell w14 g7 0 (.pointer (some ⟨bn, 0, none⟩))) (by omega)
            replace h7 := ptr_set (b := bn) h7
            replace hx0 := hx0.setCell (p := ⟨g7, 0, none⟩) hl7 (.pointer (some ⟨bn, 0, none⟩))
            refine hK.out _ _ hx0 ?_
            generalize w14.setCell ⟨g7, 0, none⟩ (.pointer (some ⟨bn, 0, none⟩)) = w15 at *
            (try simp only [Act.put, List.setIfInBounds_toArray, List.set_cons_zero, List.set_cons_succ])
            refine useq_nil ?_
            go_wp2_with fail
            go_meet
            exact ⟨g6, g7, bm, bn, rfl, rfl, hx0, h6, h7, hMm, hMn⟩
          · go_simp
            have hl6 := hx0.size
            have hne := Nat.ne_of_lt h7.lt
            have hx1 := (Ext.refl w11).alloc (.cells #[.pointer none] 65)
            replace hx0 := hx0.trans hx1
            replace hMm := hMm.ext hx1
            replace h7 := h7.ext hx1
            clear hx1
            have h6 := Blk.new w11 65 #[.pointer none]
            refine hK.out _ _ hx0 ?_
            generalize w11.alloc (.cells #[.pointer none] 65) = w12 at *
            generalize w11.heap.size = g6 at *
            (try simp only [Act.put, List.setIfInBounds_toArray, List.set_cons_zero, List.set_cons_succ])
            (refine useq_step rfl rfl rfl (fun K hK => ?_); go_simp)
            refine (hmB.out _ hx0).mono ?_
            rintro e w13 ⟨bn, rfl, _, hMn, hx1⟩
            replace hx0 := hx0.trans hx1
            replace hMm := hMm.ext hx1
            replace h6 := h6.ext hx1
            replace h7 := h7.ext hx1
            clear hx1
            refine hK.out _ _ hx0 ?_
            (try simp only [Act.put, List.setIfInBounds_toArray, List.set_cons_zero, List.set_cons_succ])
            have cG := h6.cell
            have fG := h6.frozen
            refine useq_step rfl rfl rfl (fun K hK => ?_)
            go_simp
            clear cG fG
            replace hMm := hMm.set (v := .pointer (some ⟨bm, 0, none⟩)) h6
            replace hMn := hMn.set (v := .pointer (some ⟨bm, 0, none⟩)) h6
            replace h7 := h7.frm (Frm.setCell w13 g6 0 (.pointer (some ⟨bm, 0, none⟩))) (by omega)
            replace h6 := ptr_set (b := bm) h6
            replace hx0 := hx0.setCell (p := ⟨g6, 0, none⟩) hl6 (.pointer (some ⟨bm, 0, none⟩))
            refine hK.out _ _ hx0 ?_
            generalize w13.setCell ⟨g6, 0, none⟩ (.pointer (some ⟨bm, 0, none⟩)) = w14 at *
            (try simp only [Act.put, List.setIfInBounds_toArray, List.set_cons_zero, List.set_cons_succ])
            have cG := h7.cell
            have fG := h7.frozen
            refine useq_step rfl rfl rfl (fun K hK => ?_)
            go_simp
            clear cG fG
            replace hMm := hMm.set (v := .pointer (some ⟨bn, 0, none⟩)) h7
            replace hMn := hMn.set (v := .pointer (some ⟨bn, 0, none⟩)) h7
            replace h6 := h6.frm (Frm.setCell w14 g7 0 (.pointer (some ⟨bn, 0, none⟩))) (by omega)
            replace h7 := ptr_set (b := bn) h7
            replace hx0 := hx0.setCell (p := ⟨g7, 0, none⟩) hl7 (.pointer (some ⟨bn, 0, none⟩))
            refine hK.out _ _ hx0 ?_
            generalize w14.setCell ⟨g7, 0, none⟩ (.pointer (some ⟨bn, 0, none⟩)) = w15 at *
            (try simp only [Act.put, List.setIfInBounds_toArray, List.set_cons_zero, List.set_cons_succ])
            refine useq_nil ?_
            go_wp2_with fail
            go_meet
            exact ⟨g6, g7, bm, bn, rfl, rfl, hx0, h6, h7, hMm, hMn⟩
      · go_simp
        have hl6 := hx0.size
        have hx1 := (Ext.refl wd).alloc (.cells #[.pointer none] 65)
        replace hx0 := hx0.trans hx1
        clear hx1
        have h6 := Blk.new wd 65 #[.pointer none]
        refine hK.out _ _ hx0 ?_
        generalize wd.alloc (.cells #[.pointer none] 65) = w10 at *
        generalize wd.heap.size = g6 at *
        (try simp only [Act.put, List.setIfInBounds_toArray, List.set_cons_zero, List.set_cons_succ])
        refine useq_both rfl rfl rfl rfl (fun K hK => ?_) (fun K hK => ?_)
        · go_simp
          refine (hmA.out _ hx0).mono ?_
          rintro e w11 ⟨bm, rfl, _, hMm, hx1⟩
          replace hx0 := hx0.trans hx1
          replace h6 := h6.ext hx1
          clear hx1
          refine hK.out _ _ hx0 ?_
          (try simp only [Act.put, List.setIfInBounds_toArray, List.set_cons_zero, List.set_cons_succ])
          refine useq_both rfl rfl rfl rfl (fun K hK => ?_) (fun K hK => ?_)
          · go_simp
            refine (hmB.out _ hx0).mono ?_
            rintro e w12 ⟨bn, rfl, _, hMn, hx1⟩
            replace hx0 := hx0.trans hx1
            replace hMm := hMm.ext hx1
            replace h6 := h6.ext hx1
            clear hx1
            refine hK.out _ _ hx0 ?_
            (try simp only [Act.put, List.setIfInBounds_toArray, List.set_cons_zero, List.set_cons_succ])
            (refine useq_step rfl rfl rfl (fun K hK => ?_); go_simp)
            have hl7 := hx0.size
            have hne := Nat.ne_of_lt h6.lt
            have hx1 := (Ext.refl w12).alloc (.cells #[.pointer none] 65)
            replace hx0 := hx0.trans hx1
            replace hMm := hMm.ext hx1
            replace hMn := hMn.ext hx1
            replace h6 := h6.ext hx1
            clear hx1
            have h7 := Blk.new w12 65 #[.pointer none]
            refine hK.out _ _ hx0 ?_
            generalize w12.alloc (.cells #[.pointer none] 65) = w13 at *
            generalize w12.heap.size = g7 at *
            (try simp only [Act.put, List.setIfInBounds_toArray, List.set_cons_zero, List.set_cons_succ])
            have cG := h6.cell
            have fG := h6.frozen
            refine useq_step rfl rfl rfl (fun K hK => ?_)
            go_simp
            clear cG fG
            replace hMm := hMm.set (v := .pointer (some ⟨bm, 0, none⟩)) h6
            replace hMn := hMn.set (v := .pointer (some ⟨bm, 0, none⟩)) h6
            replace h7 := h7.frm (Frm.setCell w13 g6 0 (.pointer (some ⟨bm, 0, none⟩))) (by omega)
            replace h6 := ptr_set (b := bm) h6
            replace hx0 := hx0.setCell (p := ⟨g6, 0, none⟩) hl6 (.pointer (some ⟨bm, 0, none⟩))
            refine hK.out _ _ hx0 ?_
            generalize w13.setCell ⟨g6, 0, none⟩ (.pointer (some ⟨bm, 0, none⟩)) = w14 at *
            (try simp only [Act.put, List.setIfInBounds_toArray, List.set_cons_zero, List.set_cons_succ])
            have cG := h7.cell
            have fG := h7.frozen
            refine useq_step rfl rfl rfl (fun K hK => ?_)
            go_simp
            clear cG fG
            replace hMm := hMm.set (v := .pointer (some ⟨bn, 0, none⟩)) h7
            replace hMn := hMn.set (v := .pointer (some ⟨bn, 0, none⟩)) h7
            replace h6 := h6.frm (Frm.setCell w14 g7 0 (.pointer (some ⟨bn, 0, none⟩))) (by omega)
            replace h7 := ptr_set (b := bn) h7
            replace hx0 := hx0.setCell (p := ⟨g7, 0, none⟩) hl7 (.pointer (some ⟨bn, 0, none⟩))
            refine hK.out _ _ hx0 ?_
            generalize w14.setCell ⟨g7, 0, none⟩ (.pointer (some ⟨bn, 0, none⟩)) = w15 at *
            (try simp only [Act.put, List.setIfInBounds_toArray, List.set_cons_zero, List.set_cons_succ])
            refine useq_nil ?_
            go_wp2_with fail
            go_meet
            exact ⟨g6, g7, bm, bn, rfl, rfl, hx0, h6, h7, hMm, hMn⟩
          · go_simp
            have hl7 := hx0.size
            have hne := Nat.ne_of_lt h6.lt
            have hx1 := (Ext.refl w11).alloc (.cells #[.pointer none] 65)
            replace hx0 := hx0.trans hx1
            replace hMm := hMm.ext hx1
            replace h6 := h6.ext hx1
            clear hx1
            have h7 := Blk.new w11 65 #[.pointer none]
            refine hK.out _ _ hx0 ?_
            generalize w11.alloc (.cells #[.pointer none] 65) = w12 at *
            generalize w11.heap.size = g7 at *
            (try simp only [Act.put, List.setIfInBounds_toArray, List.set_cons_zero, List.set_cons_succ])
            (refine useq_step rfl rfl rfl (fun K hK => ?_); go_simp)
            refine (hmB.out _ hx0).mono ?_
            rintro e w13 ⟨bn, rfl, _, hMn, hx1⟩
            replace hx0 := hx0.trans hx1
            replace hMm := hMm.ext hx1
            replace h6 := h6.ext hx1
            replace h7 := h7.ext hx1
            clear hx1
            refine hK.out _ _ hx0 ?_
            (try simp only [Act.put, List.setIfInBounds_toArray, List.set_cons_zero, List.set_cons_succ])
            have cG := h6.cell
            have fG := h6.frozen
            refine useq_step rfl rfl rfl (fun K hK => ?_)
            go_simp
            clear cG fG
            replace hMm := hMm.set (v := .pointer (some ⟨bm, 0, none⟩)) h6
            replace hMn := hMn.set (v := .pointer (some ⟨bm, 0, none⟩)) h6
            replace h7 := h7.frm (Frm.setCell w13 g6 0 (.pointer (some ⟨bm, 0, none⟩))) (by omega)
            replace h6 := ptr_set (b := bm) h6
            replace hx0 := hx0.setCell (p := ⟨g6, 0, none⟩) hl6 (.pointer (some ⟨bm, 0, none⟩))
            refine hK.out _ _ hx0 ?_
            generalize w13.setCell ⟨g6, 0, none⟩ (.pointer (some ⟨bm, 0, none⟩)) = w14 at *
            (try simp only [Act.put, List.setIfInBounds_toArray, List.set_cons_zero, List.set_cons_succ])
            have cG := h7.cell
            have fG := h7.frozen
            refine useq_step rfl rfl rfl (fun K hK => ?_)
            go_simp
            clear cG fG
            replace hMm := hMm.set (v := .pointer (some ⟨bn, 0, none⟩)) h7
            replace hMn := hMn.set (v := .pointer (some ⟨bn, 0, none⟩)) h7
            replace h6 := h6.frm (Frm.setCell w14 g7 0 (.pointer (some ⟨bn, 0, none⟩))) (by omega)
            replace h7 := ptr_set (b := bn) h7
            replace hx0 := hx0.setCell (p := ⟨g7, 0, none⟩) hl7 (.pointer (some ⟨bn, 0, none⟩))
            refine hK.out _ _ hx0 ?_
            generalize w14.setCell ⟨g7, 0, none⟩ (.pointer (some ⟨bn, 0, none⟩)) = w15 at *
            (try simp only [Act.put, List.setIfInBounds_toArray, List.set_cons_zero, List.set_cons_succ])
            refine useq_nil ?_
            go_wp2_with fail
            go_meet
            exact ⟨g6, g7, bm, bn, rfl, rfl, hx0, h6, h7, hMm, hMn⟩
        · go_simp
          have hl7 := hx0.size
          have hne := Nat.ne_of_lt h6.lt
          have hx1 := (Ext.refl w10).alloc (.cells #[.pointer none] 65)
          replace hx0 := hx0.trans hx1
          replace h6 := h6.ext hx1
          clear hx1
          have h7 := Blk.new w10 65 #[.pointer none]
          refine hK.out _ _ hx0 ?_
          generalize w10.alloc (.cells #[.pointer none] 65) = w11 at *
          generalize w10.heap.size = g7 at *
          (try simp only [Act.put, List.setIfInBounds_toArray, List.set_cons_zero, List.set_cons_succ])
          (refine useq_step rfl rfl rfl (fun K hK => ?_); go_simp)
          refine (hmA.out _ hx0).mono ?_
          rintro e w12 ⟨bm, rfl, _, hMm, hx1⟩
          replace hx0 := hx0.trans hx1
          replace h6 := h6.ext hx1
          replace h7 := h7.ext hx1
          clear hx1
          refine hK.out _ _ hx0 ?_
          (try simp only [Act.put, List.setIfInBounds_toArray, List.set_cons_zero, List.set_cons_succ])
          (refine useq_step rfl rfl rfl (fun K hK => ?_); go_simp)
          refine (hmB.out _ hx0).mono ?_
          rintro e w13 ⟨bn, rfl, _, hMn, hx1⟩
          replace hx0 := hx0.trans hx1
          replace hMm := hMm.ext hx1
          replace h6 := h6.ext hx1
          replace h7 := h7.ext hx1
          clear hx1
          refine hK.out _ _ hx0 ?_
          (try simp only [Act.put, List.setIfInBounds_toArray, List.set_cons_zero, List.set_cons_succ])
          have cG := h6.cell
          have fG := h6.frozen
          refine useq_step rfl rfl rfl (fun K hK => ?_)
          go_simp
          clear cG fG
          replace hMm := hMm.set (v := .pointer (some ⟨bm, 0, none⟩)) h6
          replace hMn := hMn.set (v := .pointer (some ⟨bm, 0, none⟩)) h6
          replace h7 := h7.frm (Frm.setCell w13 g6 0 (.pointer (some ⟨bm, 0, none⟩))) (by omega)
          replace h6 := ptr_set (b := bm) h6
          replace hx0 := hx0.setCell (p := ⟨g6, 0, none⟩) hl6 (.pointer (some ⟨bm, 0, none⟩))
          refine hK.out _ _ hx0 ?_
          generalize w13.setCell ⟨g6, 0, none⟩ (.pointer (some ⟨bm, 0, none⟩)) = w14 at *
          (try simp only [Act.put, List.setIfInBounds_toArray, List.set_cons_zero, List.set_cons_succ])
          have cG := h7.cell
          have fG := h7.frozen
          refine useq_step rfl rfl rfl (fun K hK => ?_)
          go_simp
          clear cG fG
          replace hMm := hMm.set (v := .pointer (some ⟨bn, 0, none⟩)) h7
          replace hMn := hMn.set (v := .pointer (some ⟨bn, 0, none⟩)) h7
          replace h6 := h6.frm (Frm.setCell w14 g7 0 (.pointer (some ⟨bn, 0, none⟩))) (by omega)
          replace h7 := ptr_set (b := bn) h7
          replace hx0 := hx0.setCell (p := ⟨g7, 0, none⟩) hl7 (.pointer (some ⟨bn, 0, none⟩))
          refine hK.out _ _ hx0 ?_
          generalize w14.setCell ⟨g7, 0, none⟩ (.pointer (some ⟨bn, 0, none⟩)) = w15 at *
          (try simp only [Act.put, List.setIfInBounds_toArray, List.set_cons_zero, List.set_cons_succ])
          refine useq_nil ?_
          go_wp2_with fail
          go_meet
          exact ⟨g6, g7, bm, bn, rfl, rfl, hx0, h6, h7, hMm, hMn⟩
      · go_simp
        have hl7 := hx0.size
        have hx1 := (Ext.refl wd).alloc (.cells #[.pointer none] 65)
        replace hx0 := hx0.trans hx1
        clear hx1
        have h7 := Blk.new wd 65 #[.pointer none]
        refine hK.out _ _ hx0 ?_
        generalize wd.alloc (.cells #[.pointer none] 65) = w10 at *
        generalize wd.heap.size = g7 at *
        (try simp only [Act.put, List.setIfInBounds_toArray, List.set_cons_zero, List.set_cons_succ])
        refine useq_both rfl rfl rfl rfl (fun K hK => ?_) (fun K hK => ?_)
        · go_simp
          refine (hmA.out _ hx0).mono ?_
          rintro e w11 ⟨bm, rfl, _, hMm, hx1⟩
          replace hx0 := hx0.trans hx1
          replace h7 := h7.ext hx1
          clear hx1
          refine hK.out _ _ hx0 ?_
          (try simp only [Act.put, List.setIfInBounds_toArray, List.set_cons_zero, List.set_cons_succ])
          refine useq_both rfl rfl rfl rfl (fun K hK => ?_) (fun K hK => ?_)
          · go_simp
            refine (hmB.out _ hx0).mono ?_
            rintro e w12 ⟨bn, rfl, _, hMn, hx1⟩
            replace hx0 := hx0.trans hx1
            replace hMm := hMm.ext hx1
            replace h7 := h7.ext hx1
            clear hx1
            refine hK.out _ _ hx0 ?_
            (try simp only [Act.put, List.setIfInBounds_toArray, List.set_cons_zero, List.set_cons_succ])
            (refine useq_step rfl rfl rfl (fun K hK => ?_); go_simp)
            have hl6 := hx0.size
            have hne := Nat.ne_of_lt h7.lt
            have hx1 := (Ext.refl w12).alloc (.cells #[.pointer none] 65)
            replace hx0 := hx0.trans hx1
            replace hMm := hMm.ext hx1
            replace hMn := hMn.ext hx1
            replace h7 := h7.ext hx1
            clear hx1
            have h6 := Blk.new w12 65 #[.pointer none]
            refine hK.out _ _ hx0 ?_
            generalize w12.alloc (.cells #[.pointer none] 65) = w13 at *
            generalize w12.heap.size = g6 at *
            (try simp only [Act.put, List.setIfInBounds_toArray, List.set_cons_zero, List.set_cons_succ])
            have cG := h6.cell
            have fG := h6.frozen
            refine useq_step rfl rfl rfl (fun K hK => ?_)
            go_simp
            clear cG fG
            replace hMm := hMm.set (v := .pointer (some ⟨bm, 0, none⟩)) h6
            replace hMn := hMn.set (v := .pointer (some ⟨bm, 0, none⟩)) h6
            replace h7 := h7.frm (Frm.setCell w13 g6 0 (.pointer (some ⟨bm, 0, none⟩))) (by omega)
            replace h6 := ptr_set (b := bm) h6
            replace hx0 := hx0.setCell (p := ⟨g6, 0, none⟩) hl6 (.pointer (some ⟨bm, 0, none⟩))
            refine hK.out _ _ hx0 ?_
            generalize w13.setCell ⟨g6, 0, none⟩ (.pointer (some ⟨bm, 0, none⟩)) = w14 at *
            (try simp only [Act.put, List.setIfInBounds_toArray, List.set_cons_zero, List.set_cons_succ])
            have cG := h7.cell
            have fG := h7.frozen
            refine useq_step rfl rfl rfl (fun K hK => ?_)
            go_simp
            clear cG fG
            replace hMm := hMm.set (v := .pointer (some ⟨bn, 0, none⟩)) h7
            replace hMn := hMn.set (v := .pointer (some ⟨bn, 0, none⟩)) h7
            replace h6 := h6.frm (Frm.setCell w14 g7 0 (.pointer (some ⟨bn, 0, none⟩))) (by omega)
            replace h7 := ptr_set (b := bn) h7
            replace hx0 := hx0.setCell (p := ⟨g7, 0, none⟩) hl7 (.pointer (some ⟨bn, 0, none⟩))
            refine hK.out _ _ hx0 ?_
            generalize w14.setCell ⟨g7, 0, none⟩ (.pointer (some ⟨bn, 0, none⟩)) = w15 at *
            (try simp only [Act.put, List.setIfInBounds_toArray, List.set_cons_zero, List.set_cons_succ])
            refine useq_nil ?_
            go_wp2_with fail
            go_meet
            exact ⟨g6, g7, bm, bn, rfl, rfl, hx0, h6, h7, hMm, hMn⟩
          · go_simp
            have hl6 := hx0.size
            have hne := Nat.ne_of_lt h7.lt
            have hx1 := (Ext.refl w11).alloc (.cells #[.pointer none] 65)
            replace hx0 := hx0.trans hx1
            replace hMm := hMm.ext hx1
            replace h7 := h7.ext hx1
            clear hx1
            have h6 := Blk.new w11 65 #[.pointer none]
            refine hK.out _ _ hx0 ?_
            generalize w11.alloc (.cells #[.pointer none] 65) = w12 at *
            generalize w11.heap.size = g6 at *
            (try simp only [Act.put, List.setIfInBounds_toArray, List.set_cons_zero, List.set_cons_succ])
            (refine useq_step rfl rfl rfl (fun K hK => ?_); go_simp)
            refine (hmB.out _ hx0).mono ?_
            rintro e w13 ⟨bn, rfl, _, hMn, hx1⟩
            replace hx0 := hx0.trans hx1
            replace hMm := hMm.ext hx1
            replace h6 := h6.ext hx1
            replace h7 := h7.ext hx1
            clear hx1
            refine hK.out _ _ hx0 ?_
            (try simp only [Act.put, List.setIfInBounds_toArray, List.set_cons_zero, List.set_cons_succ])
            have cG := h6.cell
            have fG := h6.frozen
            refine useq_step rfl rfl rfl (fun K hK => ?_)
            go_simp
            clear cG fG
            replace hMm := hMm.set (v := .pointer (some ⟨bm, 0, none⟩)) h6
            replace hMn := hMn.set (v := .pointer (some ⟨bm, 0, none⟩)) h6
            replace h7 := h7.frm (Frm.setCell w13 g6 0 (.pointer (some ⟨bm, 0, none⟩))) (by omega)
            replace h6 := ptr_set (b := bm) h6
            replace hx0 := hx0.setCell (p := ⟨g6, 0, none⟩) hl6 (.pointer (some ⟨bm, 0, none⟩))
            refine hK.out _ _ hx0 ?_
            generalize w13.setCell ⟨g6, 0, none⟩ (.pointer (some ⟨bm, 0, none⟩)) = w14 at *
            (try simp only [Act.put, List.setIfInBounds_toArray, List.set_cons_zero, List.set_cons_succ])
            have cG := h7.cell
            have fG := h7.frozen
            refine useq_step rfl rfl rfl (fun K hK => ?_)
            go_simp
            clear cG fG
            replace hMm := hMm.set (v := .pointer (some ⟨bn, 0, none⟩)) h7
            replace hMn := hMn.set (v := .pointer (some ⟨bn, 0, none⟩)) h7
            replace h6 := h6.frm (Frm.setCell w14 g7 0 (.pointer (some ⟨bn, 0, none⟩))) (by omega)
            replace h7 := ptr_set (b := bn) h7
            replace hx0 := hx0.setCell (p := ⟨g7, 0, none⟩) hl7 (.pointer (some ⟨bn, 0, none⟩))
            refine hK.out _ _ hx0 ?_
            generalize w14.setCell ⟨g7, 0, none⟩ (.pointer (some ⟨bn, 0, none⟩)) = w15 at *
            (try simp only [Act.put, List.setIfInBounds_toArray, List.set_cons_zero, List.set_cons_succ])
            refine useq_nil ?_
            go_wp2_with fail
            go_meet
            exact ⟨g6, g7, bm, bn, rfl, rfl, hx0, h6, h7, hMm, hMn⟩
        · go_simp
          have hl6 := hx0.size
          have hne := Nat.ne_of_lt h7.lt
          have hx1 := (Ext.refl w10).alloc (.cells #[.pointer none] 65)
          replace hx0 := hx0.trans hx1
          replace h7 := h7.ext hx1
          clear hx1
          have h6 := Blk.new w10 65 #[.pointer none]
          refine hK.out _ _ hx0 ?_
          generalize w10.alloc (.cells #[.pointer none] 65) = w11 at *
          generalize w10.heap.size = g6 at *
          (try simp only [Act.put, List.setIfInBounds_toArray, List.set_cons_zero, List.set_cons_succ])
          (refine useq_step rfl rfl rfl (fun K hK => ?_); go_simp)
          refine (hmA.out _ hx0).mono ?_
          rintro e w12 ⟨bm, rfl, _, hMm, hx1⟩
          replace hx0 := hx0.trans hx1
          replace h6 := h6.ext hx1
          replace h7 := h7.ext hx1
          clear hx1
          refine hK.out _ _ hx0 ?_
          (try simp only [Act.put, List.setIfInBounds_toArray, List.set_cons_zero, List.set_cons_succ])
          (refine useq_step rfl rfl rfl (fun K hK => ?_); go_simp)
          refine (hmB.out _ hx0).mono ?_
          rintro e w13 ⟨bn, rfl, _, hMn, hx1⟩
          replace hx0 := hx0.trans hx1
          replace hMm := hMm.ext hx1
          replace h6 := h6.ext hx1
          replace h7 := h7.ext hx1
          clear hx1
          refine hK.out _ _ hx0 ?_
          (try simp only [Act.put, List.setIfInBounds_toArray, List.set_cons_zero, List.set_cons_succ])
          have cG := h6.cell
          have fG := h6.frozen
          refine useq_step rfl rfl rfl (fun K hK => ?_)
          go_simp
          clear cG fG
          replace hMm := hMm.set (v := .pointer (some ⟨bm, 0, none⟩)) h6
          replace hMn := hMn.set (v := .pointer (some ⟨bm, 0, none⟩)) h6
          replace h7 := h7.frm (Frm.setCell w13 g6 0 (.pointer (some ⟨bm, 0, none⟩))) (by omega)
          replace h6 := ptr_set (b := bm) h6
          replace hx0 := hx0.setCell (p := ⟨g6, 0, none⟩) hl6 (.pointer (some ⟨bm, 0, none⟩))
          refine hK.out _ _ hx0 ?_
          generalize w13.setCell ⟨g6, 0, none⟩ (.pointer (some ⟨bm, 0, none⟩)) = w14 at *
          (try simp only [Act.put, List.setIfInBounds_toArray, List.set_cons_zero, List.set_cons_succ])
          have cG := h7.cell
          have fG := h7.frozen
          refine useq_step rfl rfl rfl (fun K hK => ?_)
          go_simp
          clear cG fG
          replace hMm := hMm.set (v := .pointer (some ⟨bn, 0, none⟩)) h7
          replace hMn := hMn.set (v := .pointer (some ⟨bn, 0, none⟩)) h7
          replace h6 := h6.frm (Frm.setCell w14 g7 0 (.pointer (some ⟨bn, 0, none⟩))) (by omega)
          replace h7 := ptr_set (b := bn) h7
          replace hx0 := hx0.setCell (p := ⟨g7, 0, none⟩) hl7 (.pointer (some ⟨bn, 0, none⟩))
          refine hK.out _ _ hx0 ?_
          generalize w14.setCell ⟨g7, 0, none⟩ (.pointer (some ⟨bn, 0, none⟩)) = w15 at *
          (try simp only [Act.put, List.setIfInBounds_toArray, List.set_cons_zero, List.set_cons_succ])
          refine useq_nil ?_
          go_wp2_with fail
          go_meet
          exact ⟨g6, g7, bm, bn, rfl, rfl, hx0, h6, h7, hMm, hMn⟩
    case rest =>
      obtain ⟨g6, g7, bm, bn, rfl, rfl, hx0, h6, h7, hMm, hMn⟩ := hcut
      clear hmA hmB c1 c2
      replace b1 := b1.ext hx0
      replace b2 := b2.ext hx0
      rw [Hp.out, Hal.out] at b1
      rw [Hq.out] at b2
      have k1 := b1.cell
      have k2 := b2.cell
      go_upto_region 6 with fail
      obtain ⟨Z, hZ⟩ : ∃ Z : Nat, Hid (Z = 2 ^ q) := ⟨_, rfl⟩
      rw [show wrap64 ((2 : Int) ^ q) = (Z : Int) by rw [hZ.out]; exact wrap_pow (by omega)]
      have hxc := (Ext.refl wc).alloc (.cells #[.int .i64 (Z : Nat)] 3)
      have hC : Caps (wc.alloc (.cells #[.int .i64 (Z : Nat)] 3)) g6 g7 wc.heap.size bm bn Z s.edges t.edges := ⟨h6.ext hxc, h7.ext hxc, Blk.new _ _ _, hMm.ext hxc, hMn.ext hxc⟩
      replace hx0 := hx0.trans hxc
      replace b1 := b1.ext hxc
      clear k1 k2 b2 h6 h7 hMm hMn hxc
      generalize wc.alloc (.cells #[.int .i64 (Z : Nat)] 3) = w4 at *
      generalize wc.heap.size = g8 at *
      have hw4 := hw1.trans hx0
      have hZ2 : 2 ≤ Z := by
        rw [hZ.out]
        have := Nat.pow_le_pow_right (n := 2) (by omega) hq1
        omega
      have hZ1 : Z ≤ 65536 := by rw [hZ.out, show (65536 : Nat) = 2 ^ 16 from rfl]; exact Nat.pow_le_pow_right (by omega) hq2
      obtain ⟨N, hN⟩ : ∃ N : Nat, Hid (N = p * Z) := ⟨_, rfl⟩
      have hN1 : N ≤ 16 * 65536 := by rw [hN.out]; exact Nat.mul_le_mul hp2 hZ1
      have hN2 : 2 ≤ N := by
        rw [hN.out]
        have := Nat.mul_le_mul hp1 hZ2
        omega
      have hZt := hide (show Z = 2 ^ t.st.toNat by rw [hZ.out, Hq.out]; rfl)
      have hLt := hide (show letters al 6 = letters s.al.toNat 6 by rw [Hal.out]; rfl)
      have key := hide (fun W (hW : Ext w4 W) A1 c1 AL q' cL (hA : IntsAt W A1 1 [1]) (hL : IntsAt W AL q' (letters al 6)) => firstPath_any (w := W) (N := N) (kn := 62) (kg := 63) (m := 1) (c := c1) (cL := cL) (capn := #[.pointer (some ⟨g7, 0, none⟩), .pointer (some ⟨g8, 0, none⟩), .pointer (some ⟨g6, 0, none⟩)]) (capg := #[.pointer (some ⟨g8, 0, none⟩)]) (goal := fun n => n % Z == 0) (d := dW s.edges t.edges Z) (start := [1]) (D := 32) hA (fun n hn => by rw [List.mem_singleton.1 hn]; omega) (by omega) hL (letters_rise al) (by omega) (by omega) (fun _ _ => rfl) (fun _ _ => rfl)
        (fun W' hW' n hn => out_goal ((hC.ext (hW.trans hW')).h8) (by omega) (by omega))
        (fun n l hn hl => ⟨by unfold dW; rw [List.length_map]; exact letters_length _ 32, fun x hx => by
          rw [hZ.out] at hx
          have h1 := (E_lt Hf.out ((dW_mem hp2 Hf.out Hg.out).1 hx).1).2
          rw [hN.out, hZ.out]
          exact (Nat.div_lt_iff_lt_mul (Nat.two_pow_pos q)).1 h1⟩)
        (fun W' hW' n l hn hl base A m c xs hb0 hb hm hown => out_next (hC.ext (hW.trans hW')) hZ.out (HTab.out _ (hw4.trans (hW.trans hW'))) Hf.out Hg.out hp2 hq2 (by rw [← hN.out]; exact hn) ((letters_rise al).1 l hl) (by have h1 := hC.h8.lt; have h2 := hW.size; omega) hb hm hown))
      have K1 : ∀ W, Ext w4 W → ∀ q, W.cell? ⟨w.heap.size, q, none⟩ = #[Value.int .i64 al, .int .i64 p, .slice A n c][q]? := fun W hW => (b1.ext hW).cell
      have K8 : ∀ W, Ext w4 W → ∀ q, W.cell? ⟨g8, q, none⟩ = #[Value.int .i64 (Z : Nat)][q]? := fun W hW => (hC.h8.ext hW).cell
      have hmul : (p : Int) * (Z : Int) = (N : Int) := by rw [hN.out]; simp
      have hwN : IntKind.i64.wrap (N : Int) = (N : Int) := IntWalk.i64_in _ (by omega)
      have hww4 := Ext.refl w4
      clear hC b1 hx0 hww
      refine wp_region_tailU (fun X => Ext w4 X) [10] (OrdU.app [0, 1, 2, 3, 5, 6, 8, 9] (OrdU.two 4 (OrdU.of [7, 10, 11, 12, 13, 14]) 7 (OrdU.of [4, 10, 11, 12, 13, 14]))) (by kernel_rfl) (by kernel_rfl) (by kernel_rfl) (by kernel_rfl) (by kernel_rfl) (fun _ _ _ _ _ h => h) (by first | assumption | exact (Ext.refl _).drew | (refine Ext.drew ?_; assumption)) ?_
      repeat (first | (refine useq_skip rfl rfl (by assumption) ?_; simp only [Act.put, List.setIfInBounds_toArray, List.set_cons_zero, List.set_cons_succ]) | (refine useq_pure (v := ?_) rfl rfl rfl rfl (fun X => ?_) ?_; rotate_left; (focus (go_simp <;> with_reducible rfl)); simp only [Act.put, List.setIfInBounds_toArray, List.set_cons_zero, List.set_cons_succ]) | (refine useq_read (v := ?_) rfl rfl rfl rfl (fun X hX => ?_) ?_; rotate_left; (focus (go_simp <;> with_reducible rfl)); simp only [Act.put, List.setIfInBounds_toArray, List.set_cons_zero, List.set_cons_succ]))
      have hx4 : Ext w4 w4.drew := hww4.drew
      generalize w4.drew = wd at *
      refine useq_both rfl rfl rfl rfl (fun K hK => ?_) (fun K hK => ?_)
      · go_simp
        have hb := Blk.new wd 3 #[.int .i64 1]
        have hx5 := (Ext.refl wd).alloc (.cells #[.int .i64 1] 3)
        replace hx4 := hx4.trans hx5
        refine hK.out _ _ hx4 ?_
        generalize wd.alloc (.cells #[.int .i64 1] 3) = w5 at *
        generalize wd.heap.size = g1 at *
        (try simp only [Act.put, List.setIfInBounds_toArray, List.set_cons_zero, List.set_cons_succ])
        (refine useq_step rfl rfl rfl (fun K hK => ?_); go_simp)
        refine (impl_lettersOf al (by unfold Sm; omega) _).mono ?_
        rintro e w6 ⟨A6, c6, rfl, hown6, hx6⟩
        replace hx4 := hx4.trans hx6
        have hI := one_at (hb.ext hx6)
        refine hK.out _ _ hx4 ?_
        (try simp only [Act.put, List.setIfInBounds_toArray, List.set_cons_zero, List.set_cons_succ])
        repeat (first | (refine useq_skip rfl rfl (by assumption) ?_; simp only [Act.put, List.setIfInBounds_toArray, List.set_cons_zero, List.set_cons_succ]) | (refine useq_pure (v := ?_) rfl rfl rfl rfl (fun X => ?_) ?_; rotate_left; (focus (go_simp <;> with_reducible rfl)); simp only [Act.put, List.setIfInBounds_toArray, List.set_cons_zero, List.set_cons_succ]) | (refine useq_read (v := ?_) rfl rfl rfl rfl (fun X hX => ?_) ?_; rotate_left; (focus (go_simp <;> with_reducible rfl)); simp only [Act.put, List.setIfInBounds_toArray, List.set_cons_zero, List.set_cons_succ]))
        (refine useq_step rfl rfl rfl (fun K hK => ?_); go_simp)
        refine (key.out _ hx4 _ _ _ _ _ hI (IntsAt.own hown6)).mono ?_
        rintro e w7 ⟨hx7, hcase⟩
        replace hx4 := hx4.trans hx7
        rcases hcase with ⟨v, rfl, hF⟩ | ⟨rfl, hF⟩
        · have ho := hide (outB_true H1.out hZt.out hLt.out hF)
          refine hK.out _ _ hx4 ?_
          (try simp only [Act.put, List.setIfInBounds_toArray, List.set_cons_zero, List.set_cons_succ])
          repeat (first | (refine useq_skip rfl rfl (by assumption) ?_; simp only [Act.put, List.setIfInBounds_toArray, List.set_cons_zero, List.set_cons_succ]) | (refine useq_pure (v := ?_) rfl rfl rfl rfl (fun X => ?_) ?_; rotate_left; (focus (go_simp <;> with_reducible rfl)); simp only [Act.put, List.setIfInBounds_toArray, List.set_cons_zero, List.set_cons_succ]) | (refine useq_read (v := ?_) rfl rfl rfl rfl (fun X hX => ?_) ?_; rotate_left; (focus (go_simp <;> with_reducible rfl)); simp only [Act.put, List.setIfInBounds_toArray, List.set_cons_zero, List.set_cons_succ]))
          refine useq_nil ?_
          go_wp2_with fail
          go_ret2
          exact ⟨_, by rw [ho.out]; rfl, hw4.trans hx4⟩
        · have ho := hide (outB_false H1.out hZt.out hLt.out hF)
          refine hK.out _ _ hx4 ?_
          (try simp only [Act.put, List.setIfInBounds_toArray, List.set_cons_zero, List.set_cons_succ])
          repeat (first | (refine useq_skip rfl rfl (by assumption) ?_; simp only [Act.put, List.setIfInBounds_toArray, List.set_cons_zero, List.set_cons_succ]) | (refine useq_pure (v := ?_) rfl rfl rfl rfl (fun X => ?_) ?_; rotate_left; (focus (go_simp <;> with_reducible rfl)); simp only [Act.put, List.setIfInBounds_toArray, List.set_cons_zero, List.set_cons_succ]) | (refine useq_read (v := ?_) rfl rfl rfl rfl (fun X hX => ?_) ?_; rotate_left; (focus (go_simp <;> with_reducible rfl)); simp only [Act.put, List.setIfInBounds_toArray, List.set_cons_zero, List.set_cons_succ]))
          refine useq_nil ?_
          go_wp2_with fail
          go_ret2
          exact ⟨_, by rw [ho.out]; rfl, hw4.trans hx4⟩
      · go_simp
        refine (impl_lettersOf al (by unfold Sm; omega) _).mono ?_
        rintro e w5 ⟨A6, c6, rfl, hown6, hx6⟩
        replace hx4 := hx4.trans hx6
        refine hK.out _ _ hx4 ?_
        (try simp only [Act.put, List.setIfInBounds_toArray, List.set_cons_zero, List.set_cons_succ])
        (refine useq_step rfl rfl rfl (fun K hK => ?_); go_simp)
        have hb := Blk.new w5 3 #[.int .i64 1]
        have hx5 := (Ext.refl w5).alloc (.cells #[.int .i64 1] 3)
        replace hx4 := hx4.trans hx5
        replace hown6 := own_ext hown6 hx5
        refine hK.out _ _ hx4 ?_
        generalize w5.alloc (.cells #[.int .i64 1] 3) = w6 at *
        generalize w5.heap.size = g1 at *
        have hI := one_at hb
        (try simp only [Act.put, List.setIfInBounds_toArray, List.set_cons_zero, List.set_cons_succ])
        repeat (first | (refine useq_skip rfl rfl (by assumption) ?_; simp only [Act.put, List.setIfInBounds_toArray, List.set_cons_zero, List.set_cons_succ]) | (refine useq_pure (v := ?_) rfl rfl rfl rfl (fun X => ?_) ?_; rotate_left; (focus (go_simp <;> with_reducible rfl)); simp only [Act.put, List.setIfInBounds_toArray, List.set_cons_zero, List.set_cons_succ]) | (refine useq_read (v := ?_) rfl rfl rfl rfl (fun X hX => ?_) ?_; rotate_left; (focus (go_simp <;> with_reducible rfl)); simp only [Act.put, List.setIfInBounds_toArray, List.set_cons_zero, List.set_cons_succ]))
        (refine useq_step rfl rfl rfl (fun K hK => ?_); go_simp)
        refine (key.out _ hx4 _ _ _ _ _ hI (IntsAt.own hown6)).mono ?_
        rintro e w7 ⟨hx7, hcase⟩
        replace hx4 := hx4.trans hx7
        rcases hcase with ⟨v, rfl, hF⟩ | ⟨rfl, hF⟩
        · have ho := hide (outB_true H1.out hZt.out hLt.out hF)
          refine hK.out _ _ hx4 ?_
          (try simp only [Act.put, List.setIfInBounds_toArray, List.set_cons_zero, List.set_cons_succ])
          repeat (first | (refine useq_skip rfl rfl (by assumption) ?_; simp only [Act.put, List.setIfInBounds_toArray, List.set_cons_zero, List.set_cons_succ]) | (refine useq_pure (v := ?_) rfl rfl rfl rfl (fun X => ?_) ?_; rotate_left; (focus (go_simp <;> with_reducible rfl)); simp only [Act.put, List.setIfInBounds_toArray, List.set_cons_zero, List.set_cons_succ]) | (refine useq_read (v := ?_) rfl rfl rfl rfl (fun X hX => ?_) ?_; rotate_left; (focus (go_simp <;> with_reducible rfl)); simp only [Act.put, List.setIfInBounds_toArray, List.set_cons_zero, List.set_cons_succ]))
          refine useq_nil ?_
          go_wp2_with fail
          go_ret2
          exact ⟨_, by rw [ho.out]; rfl, hw4.trans hx4⟩
        · have ho := hide (outB_false H1.out hZt.out hLt.out hF)
          refine hK.out _ _ hx4 ?_
          (try simp only [Act.put, List.setIfInBounds_toArray, List.set_cons_zero, List.set_cons_succ])
          repeat (first | (refine useq_skip rfl rfl (by assumption) ?_; simp only [Act.put, List.setIfInBounds_toArray, List.set_cons_zero, List.set_cons_succ]) | (refine useq_pure (v := ?_) rfl rfl rfl rfl (fun X => ?_) ?_; rotate_left; (focus (go_simp <;> with_reducible rfl)); simp only [Act.put, List.setIfInBounds_toArray, List.set_cons_zero, List.set_cons_succ]) | (refine useq_read (v := ?_) rfl rfl rfl rfl (fun X hX => ?_) ?_; rotate_left; (focus (go_simp <;> with_reducible rfl)); simp only [Act.put, List.setIfInBounds_toArray, List.set_cons_zero, List.set_cons_succ]))
          refine useq_nil ?_
          go_wp2_with fail
          go_ret2
          exact ⟨_, by rw [ho.out]; rfl, hw4.trans hx4⟩
end Go.Proofs.YtbifoikcmjmdeaaDoor
