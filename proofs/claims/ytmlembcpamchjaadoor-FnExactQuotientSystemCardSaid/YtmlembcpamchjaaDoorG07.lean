/- As XSeqT: a region that draws its order, walked; up to three operations may come up at once; closures are made without memory. It holds of every program, without conditions. | slices.Compact at edges, walked. | impl.compareEdges once more: what it leaves is the world with some blocks laid and some draws. | A row of edges that a sort has turned: it is the call's own still. | slices.Max at numbers, walked. -/
import Derived.Test.YtmlembcpamchjaaDoorG03
import Derived.Test.YtmlembcpamchjaaDoorG04
import Derived.Lib.SlicesCompact
import Derived.Lib.SliceRun
import Derived.Deep.DeepCutAuto
import Derived.Sort.Grow
import Derived.Shelf.SlSortFuncK.ComposeK
import Derived.Test.YtmlembcpamchjaaDoorG01
namespace Go.Proofs.YtmlembcpamchjaaDoor
open Go Go.RowKit

/-- Operations whose value hangs on no memory. -/
def pureOpU : Op → Bool
  | .makeFunc _ _ _ | .move _ | .assign _ | .pick _ _ _ | .binOp _ _ _ _ _ | .unOp _ _ _ | .fieldAddr _ _ _ | .field _ _ _ | .extract _ _ | .build _ _ => true
  | _ => false

/-- Operations that make no memory. -/
def quietOpU : Op → Bool
  | .makeFunc _ _ _ => true
  | o => quietOp o
/-- An order of a region's operations; where two or three may come up, all. -/
inductive OrdU where
  | nil : OrdU
  | one : Nat → OrdU → OrdU
  | two : Nat → OrdU → Nat → OrdU → OrdU
  | three : Nat → OrdU → Nat → OrdU → Nat → OrdU → OrdU
/-- One order. -/
def OrdU.of : List Nat → OrdU
  | [] => .nil
  | i :: r => .one i (OrdU.of r)
/-- Ahead of another order. -/
def OrdU.app : List Nat → OrdU → OrdU
  | [], o => o
  | i :: r, o => .one i (OrdU.app r o)
/-- The order serves: as okOrd, with the operations of the tail T, each behind all that reads memory. -/
def okOrdU (l : List Oper) (T : List Nat) : OrdU → Array Bool → Bool
  | .nil, listed => (Region.ready .any l.toArray listed).isEmpty
  | .one i rest, listed =>
    (match l[i]? with
      | some o => if quietOpU o.op then Region.free .any l.toArray listed i && (Region.ready .any l.toArray listed).contains i && !T.contains i && (pureOpU o.op || T.all fun t => below l l.length t i)
        else Region.ready .any l.toArray listed == [i]
      | none => false) && okOrdU l T rest (listed.setIfInBounds i true)
  | .two i r j r', listed => (i < l.length && j < l.length && Region.ready .any l.toArray listed == [i, j]) && (okOrdU l T r (listed.setIfInBounds i true) && okOrdU l T r' (listed.setIfInBounds j true))
  | .three i r j r' k r'', listed => (i < l.length && j < l.length && k < l.length && Region.ready .any l.toArray listed == [i, j, k]) && (okOrdU l T r (listed.setIfInBounds i true) && okOrdU l T r' (listed.setIfInBounds j true) && okOrdU l T r'' (listed.setIfInBounds k true))

def wpSeqU (P : Program) (l : List Oper) (T : List Nat) (Q : Exit → Act → World → Prop) (S : World → Prop) : OrdU → Act → World → Prop
  | .nil, a, w => Q .normal a w
  | .one i rest, a, w => match l[i]? with
    | some o => if quietOpU o.op then ∃ v, YieldsIf P l.toArray (if pureOpU o.op then fun _ => True else S) o v a ∧ wpSeqU P l T Q S rest (a.put o.dst v) w
      else wpOp P l.toArray Q i (fun a' w' => (T.contains i = false → S w') ∧ wpSeqU P l T Q S rest a' w') a w
    | none => False
  | .two i r j r', a, w => wpOp P l.toArray Q i (fun a' w' => (T.contains i = false → S w') ∧ wpSeqU P l T Q S r a' w') a w ∧ wpOp P l.toArray Q j (fun a' w' => (T.contains j = false → S w') ∧ wpSeqU P l T Q S r' a' w') a w
  | .three i r j r' k r'', a, w => wpOp P l.toArray Q i (fun a' w' => (T.contains i = false → S w') ∧ wpSeqU P l T Q S r a' w') a w ∧ wpOp P l.toArray Q j (fun a' w' => (T.contains j = false → S w') ∧ wpSeqU P l T Q S r' a' w') a w ∧ wpOp P l.toArray Q k (fun a' w' => (T.contains k = false → S w') ∧ wpSeqU P l T Q S r'' a' w') a w
/-- How many operations an order has. -/
def OrdU.len : OrdU → Nat
  | .nil => 0
  | .one _ r => r.len + 1
  | .two _ r _ _ => r.len + 1
  | .three _ r _ _ _ _ => r.len + 1
/-- Both ways are of one length. -/
def OrdU.even : OrdU → Bool
  | .nil => true
  | .one _ r => r.even
  | .two _ r _ r' => r.len == r'.len && (r.even && r'.even)
  | .three _ r _ r' _ r'' => (r.len == r'.len && r.len == r''.len) && (r.even && r'.even && r''.even)

section
variable {P : Program} {l : List Oper} {Q : Exit → Act → World → Prop} {S : World → Prop} {T : List Nat}

theorem seqU_sound (hs : Region.noSelect l.toArray = true) (hQ : ∀ (c : List PanicEntry) (a : Act) (d : Tmp) (v : Value) (w : World), Q (.panic c) (a.put (some d) v) w → Q (.panic c) a w) :
    ∀ (ord : OrdU) (listed : Array Bool) (a : Act) (w : World), listed.size = l.length → Clo l listed → ord.even = true → okOrdU l T ord listed = true → (tailed T listed ∨ S w) → wpSeqU P l T Q S ord a w →
      wpAnyL P .any l.toArray Q (fun listed w => tailed T listed ∨ S w) ord.len listed a w
  | .nil, listed, a, w, _, _, _, hok, _, h => by
    simp only [okOrdU, List.isEmpty_iff] at hok
    exact ⟨hok, h⟩
  | .one i rest, listed, a, w, hsz, hc, hev, hok, hS, h => by
    cases ho : l[i]? with
    | none => simp [okOrdU, ho] at hok
    | some o =>
      have hil : i < l.length := (List.getElem?_eq_some_iff.1 ho).1
      simp only [okOrdU, ho, Bool.and_eq_true] at hok
      simp only [wpSeqU, ho] at h
      by_cases hq : quietOpU o.op = true
      · rw [if_pos hq] at hok h
        simp only [Bool.and_eq_true] at hok
        obtain ⟨⟨⟨⟨hf, hrd⟩, hnT⟩, hpure⟩, hrest⟩ := hok
        obtain ⟨v, hy, hr⟩ := h
        have hmem : i ∈ Region.ready .any l.toArray listed := by simpa using hrd
        have hnT' : i ∉ T := by simpa using hnT
        have hset : ∀ listed : Array Bool, tailed T (listed.setIfInBounds i true) ↔ tailed T listed := fun listed => by
          constructor
          · rintro ⟨t, ht, hl⟩
            refine ⟨t, ht, ?_⟩
            rwa [getD_set_ne false (by rintro rfl; exact hnT' ht)] at hl
          · rintro ⟨t, ht, hl⟩
            exact ⟨t, ht, getD_set_true hl⟩
        refine wpAnyL_first (G := fun listed => Clo l listed ∧ listed.size = l.length) (by simpa using ho) (Region.noSelect_spec hs)
          (fun c a w h => by cases hd : o.dst with | none => rw [hd] at h; exact h | some d => rw [hd] at h; exact hQ c a d v w h)
          (fun li j hj hg => ⟨clo_step hj hg.1, by simpa using hg.2⟩) ?_ (fun li w h => h.imp (fun x => (hset li).2 x) id) (fun li w _ h => h.imp (fun x => (hset li).1 x) id)
          rest.len listed a w ⟨hc, hsz⟩ (Region.free_spec (by simpa using ho) hf) hmem hy hS ?_
        · intro li w' hg hun h
          by_cases hp : pureOpU o.op = true
          · rw [if_pos hp]; trivial
          · rw [if_neg hp]
            rcases h with ⟨t, ht, hl⟩ | h
            · exfalso
              simp only [hp, Bool.false_or] at hpure
              have hb := List.all_eq_true.1 hpure t ht
              have h1 := below_spec hg.1 _ _ _ hb hl
              have h2 : i < li.size := by rw [hg.2]; exact hil
              simp [h2] at hun h1
              rw [h1] at hun; cases hun
            · exact h
        · exact seqU_sound hs hQ rest _ _ _ (by simpa using hsz) (clo_step hmem hc) hev hrest (hS.imp (fun x => (hset _).2 x) id) hr
      · rw [if_neg hq] at hok h
        have hready : Region.ready .any l.toArray listed = [i] := by simpa using hok.1
        have hmem : i ∈ Region.ready .any l.toArray listed := by rw [hready]; simp
        refine ⟨fun h0 => (by rw [h0] at hready; cases hready), fun j hj => ?_⟩
        rw [hready] at hj
        rw [List.mem_singleton.1 hj]
        refine wpOp_mono (fun a' w' h => ?_) h
        have hS' : tailed T (listed.setIfInBounds i true) ∨ S w' := by
          cases hT : T.contains i
          · exact Or.inr (h.1 hT)
          · refine Or.inl ⟨i, by simpa using hT, ?_⟩
            have : i < listed.size := by omega
            simp [this]
        exact ⟨hS', seqU_sound hs hQ rest _ _ _ (by simpa using hsz) (clo_step hmem hc) hev hok.2 hS' h.2⟩
  | .two i r j r', listed, a, w, hsz, hc, hev, hok, hS, h => by
    simp only [OrdU.even, Bool.and_eq_true, beq_iff_eq] at hev
    simp only [okOrdU, Bool.and_eq_true, decide_eq_true_eq, beq_iff_eq] at hok
    simp only [wpSeqU] at h
    obtain ⟨⟨⟨hi, hj⟩, hready⟩, hok1, hok2⟩ := hok
    have hlen : (OrdU.two i r j r').len = r.len + 1 := rfl
    rw [hlen]
    have hm : ∀ k, k ∈ Region.ready .any l.toArray listed ↔ k = i ∨ k = j := fun k => by rw [hready]; simp
    have hS' : ∀ k w', k < l.length → (T.contains k = false → S w') → tailed T (listed.setIfInBounds k true) ∨ S w' := fun k w' hk hx => by
      cases hT : T.contains k
      · exact Or.inr (hx hT)
      · refine Or.inl ⟨k, by simpa using hT, ?_⟩
        have : k < listed.size := by omega
        simp [this]
    refine ⟨fun h0 => (by rw [h0] at hready; cases hready), fun k hk => ?_⟩
    rcases (hm k).1 hk with hk' | hk'
    · rw [hk'] at hk ⊢
      refine wpOp_mono (fun a' w' h => ?_) h.1
      exact ⟨hS' _ _ hi h.1, seqU_sound hs hQ r _ _ _ (by simpa using hsz) (clo_step hk hc) hev.2.1 hok1 (hS' _ _ hi h.1) h.2⟩
    · rw [hk'] at hk ⊢
      refine wpOp_mono (fun a' w' h => ?_) h.2
      have := seqU_sound hs hQ r' _ _ _ (by simpa using hsz) (clo_step hk hc) hev.2.2 hok2 (hS' _ _ hj h.1) h.2
      rw [← hev.1] at this
      exact ⟨hS' _ _ hj h.1, this⟩
  | .three i r j r' k r'', listed, a, w, hsz, hc, hev, hok, hS, h => by
    simp only [OrdU.even, Bool.and_eq_true, beq_iff_eq] at hev
    simp only [okOrdU, Bool.and_eq_true, decide_eq_true_eq, beq_iff_eq] at hok
    simp only [wpSeqU] at h
    obtain ⟨⟨⟨⟨hi, hj⟩, hk⟩, hready⟩, ⟨hok1, hok2⟩, hok3⟩ := hok
    obtain ⟨⟨e1, e2⟩, ⟨v1, v2⟩, v3⟩ := hev
    have hlen : (OrdU.three i r j r' k r'').len = r.len + 1 := rfl
    rw [hlen]
    have hm : ∀ x, x ∈ Region.ready .any l.toArray listed ↔ x = i ∨ x = j ∨ x = k := fun x => by rw [hready]; simp
    have hS' : ∀ k w', k < l.length → (T.contains k = false → S w') → tailed T (listed.setIfInBounds k true) ∨ S w' := fun k w' hk hx => by
      cases hT : T.contains k
      · exact Or.inr (hx hT)
      · refine Or.inl ⟨k, by simpa using hT, ?_⟩
        have : k < listed.size := by omega
        simp [this]
    refine ⟨fun h0 => (by rw [h0] at hready; cases hready), fun x hx => ?_⟩
    rcases (hm x).1 hx with hx' | hx' | hx'
    · rw [hx'] at hx ⊢
      refine wpOp_mono (fun a' w' h => ?_) h.1
      exact ⟨hS' _ _ hi h.1, seqU_sound hs hQ r _ _ _ (by simpa using hsz) (clo_step hx hc) v1 hok1 (hS' _ _ hi h.1) h.2⟩
    · rw [hx'] at hx ⊢
      refine wpOp_mono (fun a' w' h => ?_) h.2.1
      have := seqU_sound hs hQ r' _ _ _ (by simpa using hsz) (clo_step hx hc) v2 hok2 (hS' _ _ hj h.1) h.2
      rw [← e1] at this
      exact ⟨hS' _ _ hj h.1, this⟩
    · rw [hx'] at hx ⊢
      refine wpOp_mono (fun a' w' h => ?_) h.2.2
      have := seqU_sound hs hQ r'' _ _ _ (by simpa using hsz) (clo_step hx hc) v3 hok3 (hS' _ _ hk h.1) h.2
      rw [← e2] at this
      exact ⟨hS' _ _ hk h.1, this⟩

/-- The region, walked in one order: what reads under S first, then the tail. -/
theorem wp_region_tailU {id : Nat} {a : Act} {w : World} (S : World → Prop) (T : List Nat) (ord : OrdU) (hm : P.follows .mixedOrders = true) (hlen : ord.len = l.length) (hev : ord.even = true) (hs : Region.noSelect l.toArray = true) (hok : okOrdU l T ord (Array.replicate l.length false) = true)
    (hQ : ∀ (c : List PanicEntry) (a : Act) (d : Tmp) (v : Value) (w : World), Q (.panic c) (a.put (some d) v) w → Q (.panic c) a w) (hS : S w.drew) (h : wpSeqU P l T Q S ord a w.drew) : (Code.region id l.toArray true).wp P Q a w := by
  refine wp_region_any hm ?_
  have := wpAny_of_L _ _ _ _ (seqU_sound hs hQ ord _ a w.drew (by simp) (clo_start l) hev hok (Or.inr hS) h)
  rw [hlen] at this
  simpa using this

theorem useq_nil {a : Act} {w : World} (h : Q .normal a w) : wpSeqU P l T Q S .nil a w := h
/-- A step that needs no memory. -/
theorem useq_pure {i : Nat} {rest : OrdU} {o : Oper} {v : Value} {a : Act} {w : World} (ho : l[i]? = some o) (hq : quietOpU o.op = true) (_hp : pureOpU o.op = true) (hw : Region.wanted o (yielded l.toArray a.tmps) = true)
    (hy : ∀ W, (execOp a.eval o).run P W = .ok (.value v) W) (h : wpSeqU P l T Q S rest (a.put o.dst v) w) : wpSeqU P l T Q S (.one i rest) a w := by
  simp only [wpSeqU, ho, hq, if_true]
  exact ⟨v, .inl ⟨hw, fun W _ => hy W⟩, h⟩
/-- A step that reads. -/
theorem useq_read {i : Nat} {rest : OrdU} {o : Oper} {v : Value} {a : Act} {w : World} (ho : l[i]? = some o) (hq : quietOpU o.op = true) (hp : pureOpU o.op = false) (hw : Region.wanted o (yielded l.toArray a.tmps) = true)
    (hy : ∀ W, S W → (execOp a.eval o).run P W = .ok (.value v) W) (h : wpSeqU P l T Q S rest (a.put o.dst v) w) : wpSeqU P l T Q S (.one i rest) a w := by
  simp only [wpSeqU, ho, hq, hp, if_true]
  exact ⟨v, .inl ⟨hw, hy⟩, h⟩
/-- A step whose guard is off. -/
theorem useq_skip {i : Nat} {rest : OrdU} {o : Oper} {a : Act} {w : World} (ho : l[i]? = some o) (hw : Region.wanted o (yielded l.toArray a.tmps) = false)
    (hS : S w) (h : wpSeqU P l T Q S rest (a.put o.dst undef) w) : wpSeqU P l T Q S (.one i rest) a w := by
  simp only [wpSeqU, ho]
  split
  · exact ⟨undef, .inr ⟨hw, rfl⟩, h⟩
  · unfold wpOp
    simp only [List.getElem?_toArray, ho, hw, Bool.false_eq_true, if_false]
    exact ⟨fun _ => hS, h⟩
/-- A step that makes memory, or calls, ahead of the tail. -/
theorem useq_step {i : Nat} {rest : OrdU} {o : Oper} {a : Act} {w : World} (ho : l[i]? = some o) (hq : quietOpU o.op = false) (hw : Region.wanted o (yielded l.toArray a.tmps) = true)
    (h : ∀ K : Act → World → Prop, Shut (∀ a w, S w → wpSeqU P l T Q S rest a w → K a w) → o.wp P a w K Q) : wpSeqU P l T Q S (.one i rest) a w := by
  simp only [wpSeqU, ho, hq]
  unfold wpOp
  simp only [List.getElem?_toArray, ho, hw, if_true]
  exact .inl (h _ fun a w hS hW => ⟨fun _ => hS, hW⟩)
/-- A step of the tail. -/
theorem useq_last {i : Nat} {rest : OrdU} {o : Oper} {a : Act} {w : World} (ho : l[i]? = some o) (hq : quietOpU o.op = false) (hT : T.contains i = true) (hw : Region.wanted o (yielded l.toArray a.tmps) = true)
    (h : ∀ K : Act → World → Prop, Shut (∀ a w, wpSeqU P l T Q S rest a w → K a w) → o.wp P a w K Q) : wpSeqU P l T Q S (.one i rest) a w := by
  simp only [wpSeqU, ho, hq]
  unfold wpOp
  simp only [List.getElem?_toArray, ho, hw, if_true]
  exact .inl (h _ fun a w hW => ⟨fun hn => absurd (hn.symm.trans hT) (by decide), hW⟩)
end

section
variable {P : Program} {l : List Oper} {Q : Exit → Act → World → Prop} {S : World → Prop} {T : List Nat}
/-- Two that may come up, neither of the tail. -/
theorem useq_both {i j : Nat} {r r' : OrdU} {o o' : Oper} {a : Act} {w : World} (ho : l[i]? = some o) (ho' : l[j]? = some o') (hw : Region.wanted o (yielded l.toArray a.tmps) = true) (hw' : Region.wanted o' (yielded l.toArray a.tmps) = true)
    (h1 : ∀ K : Act → World → Prop, Shut (∀ a w, S w → wpSeqU P l T Q S r a w → K a w) → o.wp P a w K Q) (h2 : ∀ K : Act → World → Prop, Shut (∀ a w, S w → wpSeqU P l T Q S r' a w → K a w) → o'.wp P a w K Q) : wpSeqU P l T Q S (.two i r j r') a w := by
  constructor
  · unfold wpOp
    simp only [List.getElem?_toArray, ho, hw, if_true]
    exact .inl (h1 _ fun a w hS hW => ⟨fun _ => hS, hW⟩)
  · unfold wpOp
    simp only [List.getElem?_toArray, ho', hw', if_true]
    exact .inl (h2 _ fun a w hS hW => ⟨fun _ => hS, hW⟩)
/-- Three that may come up, none of the tail. -/
theorem useq_three {i j k : Nat} {r r' r'' : OrdU} {o o' o'' : Oper} {a : Act} {w : World} (ho : l[i]? = some o) (ho' : l[j]? = some o') (ho'' : l[k]? = some o'') (hw : Region.wanted o (yielded l.toArray a.tmps) = true) (hw' : Region.wanted o' (yielded l.toArray a.tmps) = true) (hw'' : Region.wanted o'' (yielded l.toArray a.tmps) = true)
    (h1 : ∀ K : Act → World → Prop, Shut (∀ a w, S w → wpSeqU P l T Q S r a w → K a w) → o.wp P a w K Q) (h2 : ∀ K : Act → World → Prop, Shut (∀ a w, S w → wpSeqU P l T Q S r' a w → K a w) → o'.wp P a w K Q) (h3 : ∀ K : Act → World → Prop, Shut (∀ a w, S w → wpSeqU P l T Q S r'' a w → K a w) → o''.wp P a w K Q) : wpSeqU P l T Q S (.three i r j r' k r'') a w := by
  refine ⟨?_, ?_, ?_⟩
  · unfold wpOp
    simp only [List.getElem?_toArray, ho, hw, if_true]
    exact .inl (h1 _ fun a w hS hW => ⟨fun _ => hS, hW⟩)
  · unfold wpOp
    simp only [List.getElem?_toArray, ho', hw', if_true]
    exact .inl (h2 _ fun a w hS hW => ⟨fun _ => hS, hW⟩)
  · unfold wpOp
    simp only [List.getElem?_toArray, ho'', hw'', if_true]
    exact .inl (h3 _ fun a w hS hW => ⟨fun _ => hS, hW⟩)
end
end Go.Proofs.YtmlembcpamchjaaDoor

namespace Go.Proofs.YtmlembcpamchjaaDoor
open Go Go.RowKit Go.Lib
set_option maxHeartbeats 4000000

instance : Inhabited Edg := ⟨⟨0, 0, 0⟩⟩
instance : DecidableEq Edg := fun a b => decidable_of_iff (a.fr = b.fr ∧ a.le = b.le ∧ a.to = b.to) (by cases a; cases b; simp)
theorem zero_edge (w : World) : (zeroValue 52).run Tryd.prog w = .ok (.agg #[.int .i64 0, .int .i64 0, .int .i64 0]) w := by kernel_rfl
/-- 'clear' at edges: some cells of the block are turned. -/
theorem run_clear3 (w : World) {b o n c : Nat} (hn : 0 < n) (hc : ∀ j, j < n * 3 → (w.cell? ⟨b, o + j, none⟩).isSome = true) (hf : ∀ j, j < n * 3 → w.frozen? ⟨b, o + j, none⟩ = false) :
    ∃ vs : List Value, vs.length = n * 3 ∧ ∀ ty, (Builtin.clear_ #[26] ty #[.slice (some ⟨b, o, none⟩) n c]).run Tryd.prog w = .ok (.tuple #[]) (w.setCells b o vs) := by
  obtain ⟨m, rfl⟩ : ∃ m, n = m + 1 := ⟨n - 1, by omega⟩
  have hl : (Builtin.zeroCells (Value.agg #[.int .i64 0, .int .i64 0, .int .i64 0]).cells (m + 1)).toList.length = (m + 1) * 3 := by simp [Builtin.zeroCells, Value.cells]
  have h1 : ∀ v ∈ (Builtin.zeroCells (Value.agg #[.int .i64 0, .int .i64 0, .int .i64 0]).cells (m + 1)).toList, v.oneCell' = true := by
    intro v hv
    simp [Builtin.zeroCells, Value.cells] at hv
    obtain ⟨a, _, rfl⟩ := hv
    have h3 : a % 3 = 0 ∨ a % 3 = 1 ∨ a % 3 = 2 := by omega
    rcases h3 with e | e | e <;> rw [e] <;> rfl
  have hst := run_storeCells_cells (P := Tryd.prog) b o (Builtin.zeroCells (Value.agg #[.int .i64 0, .int .i64 0, .int .i64 0]).cells (m + 1)).toList 0 w (by rw [hl]; simpa using hc) (by rw [hl]; simpa using hf) h1
  simp only [Nat.add_zero] at hst
  refine ⟨_, hl, fun ty => ?_⟩
  simp [Builtin.clear_, run_underlying (P := Tryd.prog) Tryd.underlying26, hst]
theorem eq_ifs {x y : Edg} {β : Type} (a b : β) : (if y.fr = x.fr then if y.le = x.le then if y.to = x.to then a else b else b else b) = if y = x then a else b := by
  obtain ⟨x1, x2, x3⟩ := x
  obtain ⟨y1, y2, y3⟩ := y
  by_cases h1 : y1 = x1 <;> by_cases h2 : y2 = x2 <;> by_cases h3 : y3 = x3 <;> simp [h1, h2, h3]
theorem cell_get {d : Array Edg} {k : Nat} (h : k < d.size) : d.toList[k]? = some d[k]! := by
  rw [Array.getElem?_toList, Array.getElem?_eq_getElem h, getElem!_pos d k h]
theorem edge_set {l : List Edg} {k : Nat} (x : Edg) (hk : k < l.length) : (((edgeCells l).set (k * 3) (.int .i64 x.fr)).set (k * 3 + 1) (.int .i64 x.le)).set (k * 3 + 2) (.int .i64 x.to) = edgeCells (l.set k x) := by
  induction l generalizing k with
  | nil => simp at hk
  | cons a r ih =>
    cases k with
    | zero => simp [edgeCells]
    | succ k =>
      have := ih (k := k) (by simpa using hk)
      rw [show (k + 1) * 3 + 2 = k * 3 + 2 + 1 + 1 + 1 by omega, show (k + 1) * 3 + 1 = k * 3 + 1 + 1 + 1 + 1 by omega, show (k + 1) * 3 = k * 3 + 1 + 1 + 1 by omega]
      simp only [edgeCells, List.set_cons_succ, this]
/-- An edge is stored into a row. -/
theorem own_store {w : World} {base g n cap k : Nat} {l : List Edg} (x : Edg) (h : w.ownsRow base 52 3 (.slice (some ⟨g, 0, none⟩) n cap) n (edgeCells l)) (hk : k < l.length) :
    (((w.setCell ⟨g, k * 3, none⟩ (.int .i64 x.fr)).setCell ⟨g, k * 3 + 1, none⟩ (.int .i64 x.le)).setCell ⟨g, k * 3 + 2, none⟩ (.int .i64 x.to)).ownsRow base 52 3 (.slice (some ⟨g, 0, none⟩) n cap) n (edgeCells (l.set k x)) := by
  have h1 := (h.stored (k * 3) (.int .i64 x.fr)).1
  have h2 := (h1.stored (k * 3 + 1) (.int .i64 x.le)).1
  have h3 := (h2.stored (k * 3 + 2) (.int .i64 x.to)).1
  rw [edge_set x hk] at h3
  exact h3
theorem own_capE {w : World} {base : Nat} {e : TypeId} {size n c : Nat} {A : Option Addr} {xs : List Value} (h : w.ownsRow base e size (.slice A n c) n xs) : n ≤ c := by
  rcases h.2 with ⟨hv, h0⟩ | ⟨g, cap, cur, hv, _, _, hnc, _⟩
  · omega
  · injection hv with _ _ h3
    omega
theorem fill3 (w : World) (g j : Nat) (u : Edg) : Frm (fun b => b = g) w (((w.setCell ⟨g, j, none⟩ (.int .i64 u.fr)).setCell ⟨g, j + 1, none⟩ (.int .i64 u.le)).setCell ⟨g, j + 2, none⟩ (.int .i64 u.to)) :=
  ((Frm.setCell w g j _).trans (Frm.setCell _ g (j + 1) _)).trans (Frm.setCell _ g (j + 2) _)
theorem setCells_frm (w : World) (g : Nat) : ∀ (o : Nat) (vs : List Value), Frm (fun b => b = g) w (w.setCells g o vs)
  | _, [] => Frm.refl _ _
  | o, v :: r => (Frm.setCell w g o v).trans (setCells_frm (w.setCell ⟨g, o, none⟩ v) g (o + 1) r)
/-- Some cells of a row are turned. -/
theorem own_setAny {base g n cap : Nat} {e : TypeId} {size : Nat} : ∀ (vs : List Value) (xs : List Value) (o : Nat) (w : World), w.ownsRow base e size (.slice (some ⟨g, 0, none⟩) n cap) n xs → ∃ ys, (w.setCells g o vs).ownsRow base e size (.slice (some ⟨g, 0, none⟩) n cap) n ys
  | [], xs, o, w, h => ⟨xs, by simpa [World.setCells] using h⟩
  | v :: r, xs, o, w, h => own_setAny r _ (o + 1) (w.setCell ⟨g, o, none⟩ v) (h.stored o v).1
/-- The head of a row. -/
theorem own_head {w : World} {base g n cap m : Nat} {e : TypeId} {size : Nat} {xs ys : List Value} (h : w.ownsRow base e size (.slice (some ⟨g, 0, none⟩) n cap) n xs) (hm : m ≤ n) (hl : ys.length = m * size) (hc : ∀ j u, ys[j]? = some u → w.cell? ⟨g, j, none⟩ = some u) :
    w.ownsRow base e size (.slice (some ⟨g, 0, none⟩) m cap) m ys := by
  refine ⟨hl, ?_⟩
  have hx := h.1
  have hmn : m * size ≤ n * size := Nat.mul_le_mul_right _ hm
  have hys : ys = xs.take (m * size) := by
    apply List.ext_getElem?
    intro j
    rcases Nat.lt_or_ge j (m * size) with h1 | h1
    · have h2 := hc j ys[j] (by rw [List.getElem?_eq_getElem])
      rw [h.cellAt j (by omega)] at h2
      rw [List.getElem?_take_of_lt h1, List.getElem?_eq_getElem (by omega), h2]
    · rw [List.getElem?_eq_none (by omega), List.getElem?_eq_none (by rw [List.length_take]; omega)]
  rcases h.2 with ⟨h', _⟩ | ⟨g', cap', cur, h', hb, hg, hnc, hcm, hcs, htake⟩
  · simp at h'
  · simp only [Value.slice.injEq, Option.some.injEq, Addr.mk.injEq, and_true, true_and] at h'
    obtain ⟨rfl, rfl⟩ := h'
    exact .inr ⟨g, cap, cur, rfl, hb, hg, by omega, hcm, hcs, by rw [hys, ← htake, List.take_take, Nat.min_eq_left hmn]⟩
/-- What Compact leaves. -/
def RetC (w : World) (base g cap : Nat) (es : List Edg) (e : Ending) (w' : World) : Prop :=
  e = .returned (.slice (some ⟨g, 0, none⟩) (compactUpTo es.toArray es.length).length cap) ∧ Frm (fun k => k = g) w w' ∧ w'.ownsRow base 52 3 (.slice (some ⟨g, 0, none⟩) (compactUpTo es.toArray es.length).length cap) (compactUpTo es.toArray es.length).length (edgeCells (compactUpTo es.toArray es.length))
theorem own_edge {w : World} {base g n cap k : Nat} {es : List Edg} {e : Edg} (h : w.ownsRow base 52 3 (.slice (some ⟨g, 0, none⟩) n cap) n (edgeCells es)) (he : es[k]? = some e) : w.cell? ⟨g, k * 3, none⟩ = some (.int .i64 e.fr) ∧ w.cell? ⟨g, k * 3 + 1, none⟩ = some (.int .i64 e.le) ∧ w.cell? ⟨g, k * 3 + 2, none⟩ = some (.int .i64 e.to) := by
  have := (Reads.of_own h).edge2 he
  simpa using this
set_option maxRecDepth 100000 in
theorem comp_any {w : World} {base g n cap : Nat} {es : List Edg} (h : w.ownsRow base 52 3 (.slice (some ⟨g, 0, none⟩) n cap) n (edgeCells es)) (hn4 : n ≤ 1048576) :
    Calls Tryd.prog 37 #[.slice (some ⟨g, 0, none⟩) n cap] w (RetC w base g cap es) := by
  have hl := hide (show es.length = n by have := h.1; rw [edgeCells_length] at this; omega)
  have HO := hide (fun W (hW : Ext w W) => own_ext h hW)
  have same := hide (show (∀ j, j < es.length → keeps es.toArray j = true) → compactUpTo es.toArray es.length = es from fun hall => by
    rw [compactUpTo_all _ _ hall]
    have := range_map_get es.toArray
    simpa using this)
  have hsame := hide (show ∀ W, Ext w W → (∀ j, j < es.length → keeps es.toArray j = true) → RetC w base g cap es (.returned (.slice (some ⟨g, 0, none⟩) n cap)) W from fun W hW hall => by
    have he := same.out hall
    refine ⟨by rw [he, hl.out], hW.toFrm, ?_⟩
    rw [he, hl.out]
    exact own_ext h hW)
  have hcap := own_capE h
  have hnm := (Reads.of_own h).len
  clear h
  by_cases h2 : n < 2
  · have h2' : (n : Int) < 2 := by omega
    have hfin := hide (hsame.out w (Ext.refl w) (fun j hj => keeps_lt_one _ j (by have := hl.out; omega)))
    go_enter Tryd.func37, Tryd.ntmps37
    go_wp2
    go_ret
    exact hfin.out
  · have h2' : ¬ (n : Int) < 2 := by omega
    go_enter Tryd.func37, Tryd.ntmps37
    go_wp2
    go_loopw [3, 4, 5] (fun i _ _ wr => ∃ k : Nat, k + 1 ≤ n ∧ i = .int .i64 ((k : Int) + 1) ∧ Ext w wr ∧ Hid (∀ j, j < k + 1 → keeps es.toArray j = true)) (fun i _ _ _ => n - (intOf i).toNat)
    case atStart => exact ⟨0, by omega, rfl, Ext.refl _, (show Hid _ from fun j hj => keeps_lt_one _ j hj)⟩
    case round =>
      obtain ⟨k, hk, rfl, hxr, hall⟩ := hrel
      by_cases hlt : k + 1 < n
      · obtain ⟨x, hx⟩ : ∃ x, Hid (es[k]? = some x) := ⟨_, hide (List.getElem?_eq_getElem (by rw [hl.out]; omega))⟩
        obtain ⟨y, hy⟩ : ∃ y, Hid (es[k + 1]? = some y) := ⟨_, hide (List.getElem?_eq_getElem (by rw [hl.out]; omega))⟩
        have hO := HO.out wr hxr
        obtain ⟨c0, c1, c2⟩ := own_edge hO hx.out
        obtain ⟨d0, d1, d2⟩ := own_edge hO hy.out
        have C0 : ∀ W, Ext wr W → W.cell? ⟨g, k * 3, none⟩ = some (.int .i64 x.fr) := fun W hW => hW.cell_some c0
        have C1 : ∀ W, Ext wr W → W.cell? ⟨g, k * 3 + 1, none⟩ = some (.int .i64 x.le) := fun W hW => hW.cell_some c1
        have C2 : ∀ W, Ext wr W → W.cell? ⟨g, k * 3 + 2, none⟩ = some (.int .i64 x.to) := fun W hW => hW.cell_some c2
        have D0 : ∀ W, Ext wr W → W.cell? ⟨g, (k + 1) * 3, none⟩ = some (.int .i64 y.fr) := fun W hW => hW.cell_some d0
        have D1 : ∀ W, Ext wr W → W.cell? ⟨g, (k + 1) * 3 + 1, none⟩ = some (.int .i64 y.le) := fun W hW => hW.cell_some d1
        have D2 : ∀ W, Ext wr W → W.cell? ⟨g, (k + 1) * 3 + 2, none⟩ = some (.int .i64 y.to) := fun W hW => hW.cell_some d2
        have hcast : (k : Int) + 1 < (n : Int) := by omega
        have hk0 : 0 ≤ (k : Int) := by omega
        have hkn : (k : Int) < (n : Int) := by omega
        have hk1 : 0 ≤ (k : Int) + 1 := by omega
        have htn : ((k : Int) + 1).toNat = k + 1 := by omega
        have hwr : IntKind.i64.wrap (k : Int) = k := IntWalk.i64_in _ (by omega)
        have hww := Ext.refl wr
        clear c0 c1 c2 d0 d1 d2
        go_upto_region 6 with fail
        refine wp_region_tailU (fun X => Ext wr X) [] (OrdU.of [0, 1, 2, 3, 4, 5, 6, 7, 8, 9]) (by kernel_rfl) (by kernel_rfl) (by kernel_rfl) (by kernel_rfl) (by kernel_rfl) (fun _ _ _ _ _ h => h) (by first | assumption | exact (Ext.refl _).drew | (refine Ext.drew ?_; assumption)) ?_
        repeat (first | (refine useq_skip rfl rfl (by assumption) ?_; simp only [Act.put, List.setIfInBounds_toArray, List.set_cons_zero, List.set_cons_succ]) | (refine useq_pure (v := ?_) rfl rfl rfl rfl (fun X => ?_) ?_; rotate_left; (focus (go_simp <;> with_reducible rfl)); simp only [Act.put, List.setIfInBounds_toArray, List.set_cons_zero, List.set_cons_succ]) | (refine useq_read (v := ?_) rfl rfl rfl rfl (fun X hX => ?_) ?_; rotate_left; (focus (go_simp <;> with_reducible rfl)); simp only [Act.put, List.setIfInBounds_toArray, List.set_cons_zero, List.set_cons_succ]))
        refine useq_pure (v := .bool (decide (y = x))) rfl rfl rfl rfl (fun X => ?_) ?_
        · go_simp
          rw [eq_ifs]
          by_cases e : y = x <;> simp [e]
        (try simp only [Act.put, List.setIfInBounds_toArray, List.set_cons_zero, List.set_cons_succ])
        refine useq_nil ?_
        have hww2 := hxr.drew
        have hyx := hide (show es.toArray[k + 1]! = y ∧ es.toArray[k]! = x by
          constructor
          · have := cell_get (d := es.toArray) (k := k + 1) (by simp [hl.out]; omega)
            rw [hy.out] at this
            exact (Option.some.inj this).symm
          · have := cell_get (d := es.toArray) (k := k) (by simp [hl.out]; omega)
            rw [hx.out] at this
            exact (Option.some.inj this).symm)
        clear C0 C1 C2 D0 D1 D2
        by_cases hdup : y = x
        · rw [show decide (y = x) = true by simp [hdup]]
          have hI0 := hide (CompInv.start hall.out (keeps_neg (d := es.toArray) (by omega) (by rw [hyx.out.1, Nat.add_sub_cancel, hyx.out.2]; exact hdup)))
          have hO2 := HO.out _ hww2
          generalize wr.drew = w1 at *
          have hcc : (k : Int) + 1 ≤ (cap : Int) := by omega
          have hcn : (k : Int) + 1 ≤ (n : Int) := by omega
          have hsub : ((n : Int) - ((k : Int) + 1)).toNat = n - (k + 1) := by omega
          clear hkn hO hall hyx
          go_upto_region 9 with fail
          obtain ⟨r, hr⟩ : ∃ r, r = n - (k + 1) := ⟨_, rfl⟩
          obtain ⟨rc, hrc⟩ : ∃ rc, rc = cap - (k + 1) := ⟨_, rfl⟩
          rw [← hr, ← hrc]
          have hrn : k + 1 + r = n := by omega
          clear hr hrc hsub
          go_loopw [3, 5] (fun ik i2 wr => ∃ (kk j : Nat) (dk : Array Edg), ik = .int .i64 kk ∧ i2 = .int .i64 ((j : Int) + 1) ∧ j + 1 ≤ r ∧ wr.ownsRow base 52 3 (.slice (some ⟨g, 0, none⟩) n cap) n (edgeCells dk.toList) ∧ Frm (fun b => b = g) w wr ∧ Hid (CompInv es.toArray (k + 1 + (j + 1)) kk dk)) (fun _ i2 _ => r - (intOf i2).toNat)
          case atStart => exact ⟨k + 1, 0, es.toArray, by first | rfl | (congr 1), rfl, by omega, by simpa using hO2, hww2.toFrm, hI0⟩
          case round =>
            obtain ⟨kk, j, dk, rfl, rfl, hj, hown, hfr, hI⟩ := hrel
            have hds : dk.size = n := by rw [hI.out.size]; simp [hl.out]
            have hkk := hI.out.lt
            by_cases hlj : j + 1 < r
            · have hhi := hide (hI.out.high (k + 1 + (j + 1)) (by omega))
              have hlo := hide (hI.out.high (k + 1 + j) (by omega))
              obtain ⟨a0, a1, a2⟩ := own_edge hown (cell_get (d := dk) (k := k + 1 + (j + 1)) (by omega))
              obtain ⟨b0, b1, b2⟩ := own_edge hown (cell_get (d := dk) (k := k + 1 + j) (by omega))
              rw [hhi.out] at a0 a1 a2
              rw [hlo.out] at b0 b1 b2
              have huv := hide (show keeps es.toArray (k + 1 + (j + 1)) = decide (es.toArray[k + 1 + (j + 1)]! ≠ es.toArray[k + 1 + j]!) by
                unfold keeps
                rw [show k + 1 + (j + 1) - 1 = k + 1 + j by omega]
                simp)
              have hkeep := hide (fun h => hI.out.keep (by simp [hl.out]; omega) h)
              have hskip := hide (fun h => hI.out.skip h)
              generalize es.toArray[k + 1 + (j + 1)]! = u at *
              generalize es.toArray[k + 1 + j]! = v at *
              rw [show (k + 1 + (j + 1)) * 3 = (k + 1) * 3 + (j + 1) * 3 by omega] at a0 a1 a2
              rw [show (k + 1 + j) * 3 = (k + 1) * 3 + j * 3 by omega] at b0 b1 b2
              have A0 : ∀ W, Ext wr W → W.cell? ⟨g, (k + 1) * 3 + (j + 1) * 3, none⟩ = some (.int .i64 u.fr) := fun W hW => hW.cell_some a0
              have A1 : ∀ W, Ext wr W → W.cell? ⟨g, (k + 1) * 3 + (j + 1) * 3 + 1, none⟩ = some (.int .i64 u.le) := fun W hW => hW.cell_some a1
              have A2 : ∀ W, Ext wr W → W.cell? ⟨g, (k + 1) * 3 + (j + 1) * 3 + 2, none⟩ = some (.int .i64 u.to) := fun W hW => hW.cell_some a2
              have B0 : ∀ W, Ext wr W → W.cell? ⟨g, (k + 1) * 3 + j * 3, none⟩ = some (.int .i64 v.fr) := fun W hW => hW.cell_some b0
              have B1 : ∀ W, Ext wr W → W.cell? ⟨g, (k + 1) * 3 + j * 3 + 1, none⟩ = some (.int .i64 v.le) := fun W hW => hW.cell_some b1
              have B2 : ∀ W, Ext wr W → W.cell? ⟨g, (k + 1) * 3 + j * 3 + 2, none⟩ = some (.int .i64 v.to) := fun W hW => hW.cell_some b2
              have hjc : (j : Int) + 1 < (r : Int) := by omega
              have hj0 : 0 ≤ (j : Int) := by omega
              have hjr : (j : Int) < (r : Int) := by omega
              have hj1 : 0 ≤ (j : Int) + 1 := by omega
              have hjt : ((j : Int) + 1).toNat = j + 1 := by omega
              have hwj : IntKind.i64.wrap (j : Int) = j := IntWalk.i64_in _ (by omega)
              have hww := Ext.refl wr
              clear a0 a1 a2 b0 b1 b2
              go_upto_region 11 with fail
              refine wp_region_tailU (fun X => Ext wr X) [] (OrdU.of [0, 1, 2, 3, 4, 5, 6, 7, 8, 9]) (by kernel_rfl) (by kernel_rfl) (by kernel_rfl) (by kernel_rfl) (by kernel_rfl) (fun _ _ _ _ _ h => h) (by first | assumption | exact (Ext.refl _).drew | (refine Ext.drew ?_; assumption)) ?_
              repeat (first | (refine useq_skip rfl rfl (by assumption) ?_; simp only [Act.put, List.setIfInBounds_toArray, List.set_cons_zero, List.set_cons_succ]) | (refine useq_pure (v := ?_) rfl rfl rfl rfl (fun X => ?_) ?_; rotate_left; (focus (go_simp <;> with_reducible rfl)); simp only [Act.put, List.setIfInBounds_toArray, List.set_cons_zero, List.set_cons_succ]) | (refine useq_read (v := ?_) rfl rfl rfl rfl (fun X hX => ?_) ?_; rotate_left; (focus (go_simp <;> with_reducible rfl)); simp only [Act.put, List.setIfInBounds_toArray, List.set_cons_zero, List.set_cons_succ]))
              refine useq_pure (v := .bool (decide (u ≠ v))) rfl rfl rfl rfl (fun X => ?_) ?_
              · go_simp
                rw [eq_ifs]
                by_cases e : u = v <;> simp [e]
              (try simp only [Act.put, List.setIfInBounds_toArray, List.set_cons_zero, List.set_cons_succ])
              refine useq_nil ?_
              clear B0 B1 B2
              have hown' := own_ext hown (Ext.refl wr).drew
              have hfr' : Frm (fun b => b = g) w wr.drew := hfr.ext (Ext.refl wr).drew
              have A0' := A0 _ hww.drew
              have A1' := A1 _ hww.drew
              have A2' := A2 _ hww.drew
              clear A0 A1 A2 hww hown hfr
              generalize wr.drew = w3 at *
              by_cases huv2 : u = v
              · rw [show decide (u ≠ v) = false by simp [huv2]]
                have hI3 := hide (hskip.out (by rw [huv.out]; simp [huv2]))
                clear A0' A1' A2'
                go_wp2_with fail
                go_roundw
                case rel => exact ⟨kk, j + 1, dk, rfl, by first | go_num | (congr 1; omega), by omega, hown', hfr', hI3⟩
                case measure => simp [intOf]; omega
              · rw [show decide (u ≠ v) = true by simp [huv2]]
                have hI3 := hide (hkeep.out (by rw [huv.out]; simp [huv2]))
                have hst := own_store u hown' (k := kk) (by simp; omega)
                have hf3 := hfr'.trans ((fill3 w3 g (kk * 3) u))
                have e0 := own_edge hown' (cell_get (d := dk) (k := kk) (by omega))
                obtain ⟨o0, o1, o2⟩ := e0
                have z0 := hown'.frozenAt (kk * 3)
                have z1 := hown'.frozenAt (kk * 3 + 1)
                have z2 := hown'.frozenAt (kk * 3 + 2)
                have hkc : (kk : Int) < (n : Int) := by omega
                have hdl := hide (show dk.toList.set kk u = (dk.setIfInBounds kk u).toList by simp)
                rw [hdl.out] at hst
                clear hown'
                go_wp2_with fail
                go_roundw
                case rel => exact ⟨kk + 1, j + 1, _, by go_num, by first | go_num | (congr 1; omega), by omega, hst, hf3, hI3⟩
                case measure => simp [intOf]; omega
            · have hjr : j + 1 = r := by omega
              have hI3 := hI.out
              rw [show k + 1 + (j + 1) = es.length by rw [hl.out]; omega] at hI3
              have hI4 := hide hI3
              have hkn : kk < n := by rw [← hl.out]; exact hI3.lt
              obtain ⟨vs, hvs, hclr⟩ := run_clear3 wr (b := g) (o := kk * 3) (n := n - kk) (c := cap - kk) (by omega) (fun i hi => by
                have := hown.cellAt (kk * 3 + i) (by omega)
                rw [this]
                have hlen := hown.1
                rw [List.getElem?_eq_getElem (show kk * 3 + i < (edgeCells dk.toList).length by omega)]
                rfl) (fun i hi => hown.frozenAt (kk * 3 + i))
              have hfr2 := hfr.trans (setCells_frm wr g (kk * 3) vs)
              have hout := hide (fun j (hj : j < kk * 3) => World.cell?_setCells_out g vs (kk * 3) wr ⟨g, j, none⟩ (fun _ _ => Or.inl hj))
              have hlow := hide (show ∀ j u, (edgeCells (compactUpTo es.toArray es.length))[j]? = some u → (wr.setCells g (kk * 3) vs).cell? ⟨g, j, none⟩ = some u from fun j u hu => by
                have hc : compactUpTo es.toArray es.length = dk.toList.take kk := by
                  apply List.ext_getElem?
                  intro i
                  rcases Nat.lt_or_ge i kk with h1 | h1
                  · rw [hI3.low i h1, List.getElem?_take_of_lt h1, cell_get (by omega)]
                  · rw [List.getElem?_eq_none (by rw [hI3.len]; exact h1), List.getElem?_eq_none (by rw [List.length_take]; omega)]
                rw [hc] at hu
                have hj := (List.getElem?_eq_some_iff.1 hu).1
                rw [edgeCells_length, List.length_take] at hj
                rw [hout.out j (by omega), hown.cellAt j (by omega)]
                have : edgeCells dk.toList = edgeCells (dk.toList.take kk) ++ edgeCells (dk.toList.drop kk) := by rw [← edgeCells_append, List.take_append_drop]
                rw [this, List.getElem?_append_left (by rw [edgeCells_length, List.length_take]; omega)]
                exact hu)
              have hfin := hide (show RetC w base g cap es (.returned (.slice (some ⟨g, 0, none⟩) kk cap)) (wr.setCells g (kk * 3) vs) from by
                obtain ⟨ys, hys⟩ := own_setAny vs _ (kk * 3) wr hown
                have h1 := own_head hys (m := kk) (Nat.le_of_lt hkn) (by rw [edgeCells_length, hI3.len]) hlow.out
                refine ⟨by rw [hI3.len], hfr2, ?_⟩
                rw [hI3.len]
                exact h1)
              have hnc : (kk : Int) ≤ (n : Int) := by omega
              have hncap : (kk : Int) ≤ (cap : Int) := by omega
              have hcast2 : ¬ ((j : Int) + 1 < (r : Int)) := by omega
              clear hown hI hI3 hfr hfr2
              go_wp2_with (simp only [hclr])
              go_ret
              exact hfin.out
        · have hkeep := hide (show ∀ j, j < k + 1 + 1 → keeps es.toArray j = true from fun j hj => by
            rcases Nat.lt_or_ge j (k + 1) with h1 | h1
            · exact hall.out j h1
            · obtain rfl : j = k + 1 := by omega
              refine keeps_pos ?_
              rw [hyx.out.1, Nat.add_sub_cancel, hyx.out.2]
              exact hdup)
          rw [show decide (y = x) = false by simp [hdup]]
          go_wp2_with fail
          go_roundw
          case rel => exact ⟨k + 1, by omega, by first | go_num | (congr 1; omega), hww2, hkeep⟩
          case measure => simp [intOf]; omega
      · have hfin := hide (hsame.out wr hxr (fun j hj => hall.out j (by rw [hl.out] at hj; omega)))
        have hcast : ¬ ((k : Int) + 1 < (n : Int)) := by omega
        go_wp2_with fail
        go_ret
        exact hfin.out
end Go.Proofs.YtmlembcpamchjaaDoor

namespace Go.Proofs.YtmlembcpamchjaaDoor
open Go Go.RowKit
set_option maxHeartbeats 2000000

/-- Blocks have been laid, and orders drawn; nothing else. -/
def GExt (w w' : World) : Prop := ∃ q os, w' = Sort.grow (w.drewN q) os
theorem GExt.refl (w : World) : GExt w w := ⟨0, #[], by simp [Sort.grow, World.drewN]⟩
theorem GExt.drew {a w : World} (h : GExt a w) : GExt a w.drew := by
  obtain ⟨q, os, rfl⟩ := h
  exact ⟨q + 1, os, rfl⟩
theorem GExt.alloc {a w : World} (h : GExt a w) (o : Obj) : GExt a (w.alloc o) := by
  obtain ⟨q, os, rfl⟩ := h
  exact ⟨q, os ++ #[o], by rw [Sort.alloc_eq_grow, Sort.grow_grow]⟩
theorem GExt.trans {a b c : World} (h : GExt a b) (k : GExt b c) : GExt a c := by
  obtain ⟨q, os, rfl⟩ := h
  obtain ⟨q', os', rfl⟩ := k
  exact ⟨q + q', os ++ os', by simp [Sort.grow, World.drewN, Nat.add_assoc]⟩
theorem GExt.toExt {a b : World} (h : GExt a b) : Ext a b := by
  obtain ⟨q, os, rfl⟩ := h
  refine ⟨rfl, rfl, rfl, by simp [Sort.grow, World.drewN], fun k hk _ => ?_⟩
  show (a.heap ++ os)[k]? = a.heap[k]?
  rw [Array.getElem?_append_left hk]
theorem compareEdges_g {a b : Edg} {w : World} :
    Calls Tryd.prog 36 #[.agg #[.int .i64 a.fr, .int .i64 a.le, .int .i64 a.to], .agg #[.int .i64 b.fr, .int .i64 b.le, .int .i64 b.to]] w fun e w' => e = .returned (.int .i64 (cmpE a b)) ∧ GExt w w' := by
  go_enter Tryd.func36, Tryd.ntmps36
  go_wp2_with fail
  obtain ⟨W, hW⟩ : ∃ W : World, W = (w.alloc (.cells #[Value.int .i64 a.fr, .int .i64 a.le, .int .i64 a.to] 52)).alloc (.cells #[Value.int .i64 b.fr, .int .i64 b.le, .int .i64 b.to] 52) := ⟨_, rfl⟩
  have hx : GExt w W := by rw [hW]; exact ((GExt.refl _).alloc _).alloc _
  have h2 := ext_blk2 (show Ext ((w.alloc (.cells #[Value.int .i64 a.fr, .int .i64 a.le, .int .i64 a.to] 52)).alloc (.cells #[Value.int .i64 b.fr, .int .i64 b.le, .int .i64 b.to] 52)) W by rw [hW]; exact Ext.refl _)
  have e0 : ∀ X, GExt W X → ∀ j, X.cell? ⟨w.heap.size, j, none⟩ = #[Value.int .i64 a.fr, .int .i64 a.le, .int .i64 a.to][j]? := fun X hX => (h2.1.ext hX.toExt).cell
  have e1 : ∀ X, GExt W X → ∀ j, X.cell? ⟨w.heap.size + 1, j, none⟩ = #[Value.int .i64 b.fr, .int .i64 b.le, .int .i64 b.to][j]? := fun X hX => (h2.2.ext hX.toExt).cell
  rw [← hW]
  have hr := GExt.refl W
  clear hW h2
  go_region_held3 (fun X => GExt W X) (first | assumption | (refine GExt.drew ?_; assumption) | (refine GExt.alloc ?_ _; assumption) | (refine GExt.drew ?_; refine GExt.alloc ?_ _; assumption) | (refine GExt.trans ?_ (by assumption); assumption)) (first | (go_at_call 63; refine (cmp_Compare _ _ _).mono ?_; rintro e w' ⟨rfl, rfl⟩) | (go_at_call 62; refine (cmp_Or (reads_lit 3 [cmpI a.fr b.fr, cmpI a.le b.le, cmpI a.to b.to] rfl rfl (by omega) ((Ext.refl _).drew))).mono ?_; rintro e w' ⟨rfl, rfl⟩))
  all_goals (go_wp2_with fail; go_ret; exact ⟨rfl, hx.trans (by first | assumption | (refine GExt.drew ?_; assumption) | (refine GExt.alloc ?_ _; assumption) | (refine GExt.drew ?_; refine GExt.alloc ?_ _; assumption))⟩)
end Go.Proofs.YtmlembcpamchjaaDoor

namespace Go.Proofs.YtmlembcpamchjaaDoor
open Go Go.RowKit Go.Lib
set_option maxHeartbeats 2000000

def encE (e : Edg) : List Value := [.int .i64 e.fr, .int .i64 e.le, .int .i64 e.to]
theorem flat_edge (d : Array Edg) : Sort.flatK encE 3 d = (edgeCells d.toList).toArray := by
  apply Array.ext
  · rw [Sort.size_flatK]; simp [edgeCells_length]
  · intro i h1 h2
    rw [Sort.size_flatK] at h1
    have hg := Sort.get_flatK encE 3 d i h1
    rw [getElem!_pos _ i (by rw [Sort.size_flatK]; exact h1)] at hg
    rw [hg]
    have hk : i / 3 < d.size := by omega
    have hc := edgeCells_get (cell_get hk)
    generalize d[i / 3]! = e at *
    have h3 : i % 3 = 0 ∨ i % 3 = 1 ∨ i % 3 = 2 := by omega
    have hx : ∀ u, (edgeCells d.toList)[i]? = some u → (edgeCells d.toList).toArray[i] = u := fun u hu => by
      have := (List.getElem?_eq_some_iff.1 hu).2
      simpa using this
    rcases h3 with h | h | h
    · rw [h, hx _ (by rw [show i = i / 3 * 3 by omega] ; exact hc.1)]; rfl
    · rw [h, hx _ (by rw [show i = i / 3 * 3 + 1 by omega] ; exact hc.2.1)]; rfl
    · rw [h, hx _ (by rw [show i = i / 3 * 3 + 2 by omega] ; exact hc.2.2)]; rfl
theorem holds_edge {w : World} {base g n cap : Nat} {es : List Edg} (h : w.ownsRow base 52 3 (.slice (some ⟨g, 0, none⟩) n cap) n (edgeCells es)) : Sort.HoldsK encE 3 w g 0 es.toArray := by
  intro j hj
  rw [flat_edge] at hj ⊢
  have hl := h.1
  have hj' : j < (edgeCells es).length := by simpa using hj
  refine ⟨?_, by rw [Nat.zero_add]; exact h.frozenAt j⟩
  rw [Nat.zero_add, h.cellAt j (by omega), getElem!_pos _ j hj]
  simp [List.getElem?_eq_getElem hj']
theorem own_setCells {base g n cap : Nat} {e : TypeId} {size : Nat} : ∀ (vs xs : List Value) (o : Nat) (w : World), o + vs.length ≤ xs.length → w.ownsRow base e size (.slice (some ⟨g, 0, none⟩) n cap) n xs → (w.setCells g o vs).ownsRow base e size (.slice (some ⟨g, 0, none⟩) n cap) n (xs.take o ++ vs ++ xs.drop (o + vs.length))
  | [], xs, o, w, _, h => by simpa [World.setCells] using h
  | v :: r, xs, o, w, hl, h => by
    have h1 := (h.stored o v).1
    have := own_setCells r (xs.set o v) (o + 1) (w.setCell ⟨g, o, none⟩ v) (by simp at hl ⊢; omega) h1
    have e : (xs.set o v).take (o + 1) ++ r ++ (xs.set o v).drop (o + 1 + r.length) = xs.take o ++ (v :: r) ++ xs.drop (o + (v :: r).length) := by
      simp only [List.length_cons] at hl ⊢
      rw [List.take_add_one, List.getElem?_set_self (by omega), List.take_set_of_le (by omega), List.drop_set_of_lt (by omega), show o + 1 + r.length = o + (r.length + 1) by omega]
      simp
    rw [e] at this
    exact this
theorem setMany_list : ∀ (vs : List Value) (o : Nat) (xs : List Value), o + vs.length ≤ xs.length → Sort.setMany xs.toArray o vs = (xs.take o ++ vs ++ xs.drop (o + vs.length)).toArray
  | [], o, xs, _ => by simp [Sort.setMany]
  | v :: r, o, xs, hl => by
    have := setMany_list r (o + 1) (xs.set o v) (by simp at hl ⊢; omega)
    have e : (xs.set o v).take (o + 1) ++ r ++ (xs.set o v).drop (o + 1 + r.length) = xs.take o ++ (v :: r) ++ xs.drop (o + (v :: r).length) := by
      simp only [List.length_cons] at hl ⊢
      rw [List.take_add_one, List.getElem?_set_self (by omega), List.take_set_of_le (by omega), List.drop_set_of_lt (by omega), show o + 1 + r.length = o + (r.length + 1) by omega]
      simp
    rw [e] at this
    simpa [Sort.setMany] using this
theorem setMany_all (vs xs : List Value) (hl : vs.length = xs.length) : Sort.setMany xs.toArray 0 vs = vs.toArray := by
  rw [setMany_list vs 0 xs (by omega), List.take_zero, List.nil_append, Nat.zero_add, List.drop_of_length_le (by omega), List.append_nil]
/-- What a sort has turned is the call's own. -/
theorem own_sorted {w : World} {base g n cap m : Nat} {es es' : List Edg} {os : Array Obj} (h : w.ownsRow base 52 3 (.slice (some ⟨g, 0, none⟩) n cap) n (edgeCells es)) (hl : es'.length = es.length) :
    (Go.Proofs.sortWorldK encE 3 w g 0 m es'.toArray os).ownsRow base 52 3 (.slice (some ⟨g, 0, none⟩) n cap) n (edgeCells es') ∧ Frm (fun k => k = g) w (Go.Proofs.sortWorldK encE 3 w g 0 m es'.toArray os) := by
  have hw1 : Ext w (Sort.ahead w m) := ⟨rfl, rfl, rfl, Nat.le_refl _, fun _ _ _ => rfl⟩
  have h1 := own_ext h hw1
  have hH := holds_edge h1
  have hp : Sort.putRowK encE 3 (Sort.ahead w m) g 0 es'.toArray = (Sort.ahead w m).setCells g 0 (edgeCells es') := by
    have h2 := Sort.putRow_self id (Sort.ahead w m) g 0 (Sort.flatK encE 3 es.toArray) hH
    have h3 := Sort.setCells_putRow (Sort.ahead w m) g 0 (edgeCells es') 0 (Sort.flatK encE 3 es.toArray) (by rw [Sort.size_flatK, edgeCells_length]; simp [hl])
    rw [h2] at h3
    rw [Nat.add_zero] at h3
    rw [h3]
    unfold Sort.putRowK
    congr 1
    rw [flat_edge, flat_edge]
    exact (setMany_all _ _ (by simp [edgeCells_length, hl])).symm
  have h4 := own_setCells (edgeCells es') (edgeCells es) 0 (Sort.ahead w m) (by rw [edgeCells_length, edgeCells_length]; omega) h1
  rw [List.take_zero, List.nil_append, Nat.zero_add, List.drop_of_length_le (by rw [edgeCells_length, edgeCells_length]; omega), List.append_nil] at h4
  have hf := setCells_frm (Sort.ahead w m) g 0 (edgeCells es')
  unfold Go.Proofs.sortWorldK
  rw [hp]
  generalize (Sort.ahead w m).setCells g 0 (edgeCells es') = w2 at *
  have hx : Ext w2 (Sort.grow w2 os) := (show GExt w2 (Sort.grow w2 os) from ⟨0, os, rfl⟩).toExt
  exact ⟨own_ext h4 hx, ((hw1.toFrm).trans hf).ext hx⟩
end Go.Proofs.YtmlembcpamchjaaDoor

namespace Go.Proofs.YtmlembcpamchjaaDoor
open Go Go.RowKit
set_option maxHeartbeats 2000000

/-- The greatest of some numbers. -/
def Great (xs : List Nat) (m : Nat) : Prop := m ∈ xs ∧ ∀ x ∈ xs, x ≤ m
theorem max_any {w : World} {base n c : Nat} {A : Option Addr} {xs : List Nat} (h : w.ownsRow base 3 1 (.slice A n c) n (nats xs)) (h0 : 0 < n) (hs : ∀ x ∈ xs, x < 4294967296) :
    Calls Tryd.prog 34 #[.slice A n c] w fun e w' => ∃ m : Nat, e = .returned (.int .i64 m) ∧ Hid (Great xs m) ∧ w = w' := by
  have hl := hide (show xs.length = n by have := h.1; rw [nats_length] at this; omega)
  have hnm := (Reads.of_own h).len
  obtain ⟨g, rfl⟩ : ∃ g, A = some ⟨g, 0, none⟩ := by
    rcases h.2 with ⟨_, hh⟩ | ⟨g, cap, cur, hv, _⟩
    · omega
    · exact ⟨g, by injection hv⟩
  have Hc := hide (fun (k : Nat) (x : Nat) (hk : xs[k]? = some x) => (show w.cell? ⟨g, k, none⟩ = some (.int .i64 (x : Nat)) by
    have := (List.getElem?_eq_some_iff.1 hk).1
    rw [h.cellAt k (by have := hl.out; omega)]; simp [nats, hk]))
  have Hs := hide hs
  obtain ⟨x0, hx0⟩ : ∃ x0, Hid (xs[0]? = some x0) := ⟨_, hide (List.getElem?_eq_getElem (by rw [hl.out]; exact h0))⟩
  have c0 := Hc.out 0 x0 hx0.out
  have hm0 := hide (List.mem_of_getElem? hx0.out)
  have hpos : (0 : Int) < (n : Int) := by omega
  have hpos' : ¬ ((n : Int) < 1) := by omega
  clear h hs
  go_enter Tryd.func34, Tryd.ntmps34
  go_wp2
  go_loopw [3, 4] (fun v i wr => ∃ (k m : Nat), 1 ≤ k ∧ k ≤ n ∧ i = .int .i64 k ∧ v = .int .i64 m ∧ m < 4294967296 ∧ Hid (Great (xs.take k) m) ∧ w = wr) (fun _ i _ => n - (intOf i).toNat)
  case atStart =>
    refine ⟨1, x0, by omega, by omega, rfl, rfl, Hs.out x0 hm0.out, (show Great (xs.take 1) x0 from ?_), rfl⟩
    have : xs.take 1 = [x0] := by rw [List.take_add_one, hx0.out]; rfl
    rw [this]
    exact ⟨by simp, fun x hx => by rw [List.mem_singleton.1 hx]; exact Nat.le_refl _⟩
  case round =>
    clear c0
    obtain ⟨k, m, hk1, hk, rfl, rfl, hm, hG, rfl⟩ := hrel
    by_cases hlt : k < n
    · obtain ⟨x, hx⟩ : ∃ x, Hid (xs[k]? = some x) := ⟨_, hide (List.getElem?_eq_getElem (by rw [hl.out]; exact hlt))⟩
      obtain ⟨x, hx⟩ : ∃ x, Hid (xs[k]? = some x) := ⟨_, List.getElem?_eq_getElem (by have := hl.out; omega)⟩
      have c1 := Hc.out k x hx.out
      have hxs := Hs.out x (List.mem_of_getElem? hx.out)
      have htk := hide (show xs.take (k + 1) = xs.take k ++ [x] by rw [List.take_add_one, hx.out]; rfl)
      have hkc : (k : Int) < (n : Int) := by omega
      have hgr := hG.out
      by_cases hmx : m < x
      · have hg2 := hide (show Great (xs.take (k + 1)) x by
          rw [htk.out]
          refine ⟨by simp, fun y hy => ?_⟩
          rcases List.mem_append.1 hy with h | h
          · have := hgr.2 y h; omega
          · rw [List.mem_singleton.1 h]; exact Nat.le_refl _)
        clear hgr hG
        go_wp2
        go_roundw
        case rel => exact ⟨k + 1, x, by omega, by omega, by go_num, by first | rfl | (rw [if_pos hmx]) | (rw [Int.max_eq_right (by omega)]), hxs, hg2, by first | trivial | rfl⟩
        case measure => simp [intOf]; omega
      · have hg2 := hide (show Great (xs.take (k + 1)) m by
          rw [htk.out]
          refine ⟨by simp [hgr.1], fun y hy => ?_⟩
          rcases List.mem_append.1 hy with h | h
          · exact hgr.2 y h
          · rw [List.mem_singleton.1 h]; omega)
        clear hgr hG
        go_wp2
        go_roundw
        case rel => exact ⟨k + 1, m, by omega, by omega, by go_num, by first | rfl | (rw [if_neg hmx]) | (rw [Int.max_eq_left (by omega)]), hm, hg2, by first | trivial | rfl⟩
        case measure => simp [intOf]; omega
    · obtain rfl : k = n := by omega
      have hfin := hide (show Great xs m by have := hG.out; rwa [List.take_of_length_le (by rw [hl.out]; exact Nat.le_refl _)] at this)
      clear hG
      go_wp2
      go_ret
      exact ⟨m, rfl, hfin, by first | trivial | rfl⟩
end Go.Proofs.YtmlembcpamchjaaDoor
