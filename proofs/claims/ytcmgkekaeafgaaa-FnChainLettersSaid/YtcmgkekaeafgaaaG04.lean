/- As XSeqT: a region that draws its order, walked; up to three operations may come up at once; closures are made without memory. It holds of every program, without conditions. | Plain: a search through words in their order (shorter first, then by letters); what it finds is the first word that leads to a goal. No program in sight. | Plain: how many steps a search has, and how many nodes. | impl.firstPath's closure (a visit of some nodes), walked. | impl.firstPath's closure (a visit of some nodes), walked. | slices.Reverse at bytes, walked. | impl.letterByte; slices.Reverse at no byte. | impl.firstPath, walked. -/
import Derived.Test.YtcmgkekaeafgaaaG02
import Derived.Test.YtcmgkekaeafgaaaG01
import Derived.Deep.DeepCutAuto
import Derived.Shelf.RegionOpenPlain
import Derived.Deep.LoopGhost
import Derived.Sort.WalkB12
import Derived.Lib.SlicesMore
import Derived.Laws.BytesArg
namespace Go.Proofs.Ytcmgkekaeafgaaa
open Go Go.RowKit

/-- Operations whose value hangs on no memory. -/
def pureOpU : Op → Bool
  | .makeFunc _ _ _ | .move _ | .assign _ | .pick _ _ _ | .binOp _ _ _ _ _ | .unOp _ _ _ | .fieldAddr _ _ _ | .field _ _ _ | .extract _ _ | .build _ _ => true
  | _ => false

/-- Operations that make no memory. -/
def quietOpU : Op → Bool
  | .makeFunc _ _ _ => true
  | o => quietOp o
/-- An order of a region's operations; where two or three may come up, all. -/
inductive OrdU where
  | nil : OrdU
  | one : Nat → OrdU → OrdU
  | two : Nat → OrdU → Nat → OrdU → OrdU
  | three : Nat → OrdU → Nat → OrdU → Nat → OrdU → OrdU
/-- One order. -/
def OrdU.of : List Nat → OrdU
  | [] => .nil
  | i :: r => .one i (OrdU.of r)
/-- Ahead of another order. -/
def OrdU.app : List Nat → OrdU → OrdU
  | [], o => o
  | i :: r, o => .one i (OrdU.app r o)
/-- The order serves: as okOrd, with the operations of the tail T, each behind all that reads memory. -/
def okOrdU (l : List Oper) (T : List Nat) : OrdU → Array Bool → Bool
  | .nil, listed => (Region.ready .any l.toArray listed).isEmpty
  | .one i rest, listed =>
    (match l[i]? with
      | some o => if quietOpU o.op then Region.free .any l.toArray listed i && (Region.ready .any l.toArray listed).contains i && !T.contains i && (pureOpU o.op || T.all fun t => below l l.length t i)
        else Region.ready .any l.toArray listed == [i]
      | none => false) && okOrdU l T rest (listed.setIfInBounds i true)
  | .two i r j r', listed => (i < l.length && j < l.length && Region.ready .any l.toArray listed == [i, j]) && (okOrdU l T r (listed.setIfInBounds i true) && okOrdU l T r' (listed.setIfInBounds j true))
  | .three i r j r' k r'', listed => (i < l.length && j < l.length && k < l.length && Region.ready .any l.toArray listed == [i, j, k]) && (okOrdU l T r (listed.setIfInBounds i true) && okOrdU l T r' (listed.setIfInBounds j true) && okOrdU l T r'' (listed.setIfInBounds k true))

def wpSeqU (P : Program) (l : List Oper) (T : List Nat) (Q : Exit → Act → World → Prop) (S : World → Prop) : OrdU → Act → World → Prop
  | .nil, a, w => Q .normal a w
  | .one i rest, a, w => match l[i]? with
    | some o => if quietOpU o.op then ∃ v, YieldsIf P l.toArray (if pureOpU o.op then fun _ => True else S) o v a ∧ wpSeqU P l T Q S rest (a.put o.dst v) w
      else wpOp P l.toArray Q i (fun a' w' => (T.contains i = false → S w') ∧ wpSeqU P l T Q S rest a' w') a w
    | none => False
  | .two i r j r', a, w => wpOp P l.toArray Q i (fun a' w' => (T.contains i = false → S w') ∧ wpSeqU P l T Q S r a' w') a w ∧ wpOp P l.toArray Q j (fun a' w' => (T.contains j = false → S w') ∧ wpSeqU P l T Q S r' a' w') a w
  | .three i r j r' k r'', a, w => wpOp P l.toArray Q i (fun a' w' => (T.contains i = false → S w') ∧ wpSeqU P l T Q S r a' w') a w ∧ wpOp P l.toArray Q j (fun a' w' => (T.contains j = false → S w') ∧ wpSeqU P l T Q S r' a' w') a w ∧ wpOp P l.toArray Q k (fun a' w' => (T.contains k = false → S w') ∧ wpSeqU P l T Q S r'' a' w') a w
/-- How many operations an order has. -/
def OrdU.len : OrdU → Nat
  | .nil => 0
  | .one _ r => r.len + 1
  | .two _ r _ _ => r.len + 1
  | .three _ r _ _ _ _ => r.len + 1
/-- Both ways are of one length. -/
def OrdU.even : OrdU → Bool
  | .nil => true
  | .one _ r => r.even
  | .two _ r _ r' => r.len == r'.len && (r.even && r'.even)
  | .three _ r _ r' _ r'' => (r.len == r'.len && r.len == r''.len) && (r.even && r'.even && r''.even)

section
variable {P : Program} {l : List Oper} {Q : Exit → Act → World → Prop} {S : World → Prop} {T : List Nat}

theorem seqU_sound (hs : Region.noSelect l.toArray = true) (hQ : ∀ (c : List PanicEntry) (a : Act) (d : Tmp) (v : Value) (w : World), Q (.panic c) (a.put (some d) v) w → Q (.panic c) a w) :
    ∀ (ord : OrdU) (listed : Array Bool) (a : Act) (w : World), listed.size = l.length → Clo l listed → ord.even = true → okOrdU l T ord listed = true → (tailed T listed ∨ S w) → wpSeqU P l T Q S ord a w →
      wpAnyL P .any l.toArray Q (fun listed w => tailed T listed ∨ S w) ord.len listed a w
  | .nil, listed, a, w, _, _, _, hok, _, h => by
    simp only [okOrdU, List.isEmpty_iff] at hok
    exact ⟨hok, h⟩
  | .one i rest, listed, a, w, hsz, hc, hev, hok, hS, h => by
    cases ho : l[i]? with
    | none => simp [okOrdU, ho] at hok
    | some o =>
      have hil : i < l.length := (List.getElem?_eq_some_iff.1 ho).1
      simp only [okOrdU, ho, Bool.and_eq_true] at hok
      simp only [wpSeqU, ho] at h
      by_cases hq : quietOpU o.op = true
      · rw [if_pos hq] at hok h
        simp only [Bool.and_eq_true] at hok
        obtain ⟨⟨⟨⟨hf, hrd⟩, hnT⟩, hpure⟩, hrest⟩ := hok
        obtain ⟨v, hy, hr⟩ := h
        have hmem : i ∈ Region.ready .any l.toArray listed := by simpa using hrd
        have hnT' : i ∉ T := by simpa using hnT
        have hset : ∀ listed : Array Bool, tailed T (listed.setIfInBounds i true) ↔ tailed T listed := fun listed => by
          constructor
          · rintro ⟨t, ht, hl⟩
            refine ⟨t, ht, ?_⟩
            rwa [getD_set_ne false (by rintro rfl; exact hnT' ht)] at hl
          · rintro ⟨t, ht, hl⟩
            exact ⟨t, ht, getD_set_true hl⟩
        refine wpAnyL_first (G := fun listed => Clo l listed ∧ listed.size = l.length) (by simpa using ho) (Region.noSelect_spec hs)
          (fun c a w h => by cases hd : o.dst with | none => rw [hd] at h; exact h | some d => rw [hd] at h; exact hQ c a d v w h)
          (fun li j hj hg => ⟨clo_step hj hg.1, by simpa using hg.2⟩) ?_ (fun li w h => h.imp (fun x => (hset li).2 x) id) (fun li w _ h => h.imp (fun x => (hset li).1 x) id)
          rest.len listed a w ⟨hc, hsz⟩ (Region.free_spec (by simpa using ho) hf) hmem hy hS ?_
        · intro li w' hg hun h
          by_cases hp : pureOpU o.op = true
          · rw [if_pos hp]; trivial
          · rw [if_neg hp]
            rcases h with ⟨t, ht, hl⟩ | h
            · exfalso
              simp only [hp, Bool.false_or] at hpure
              have hb := List.all_eq_true.1 hpure t ht
              have h1 := below_spec hg.1 _ _ _ hb hl
              have h2 : i < li.size := by rw [hg.2]; exact hil
              simp [h2] at hun h1
              rw [h1] at hun; cases hun
            · exact h
        · exact seqU_sound hs hQ rest _ _ _ (by simpa using hsz) (clo_step hmem hc) hev hrest (hS.imp (fun x => (hset _).2 x) id) hr
      · rw [if_neg hq] at hok h
        have hready : Region.ready .any l.toArray listed = [i] := by simpa using hok.1
        have hmem : i ∈ Region.ready .any l.toArray listed := by rw [hready]; simp
        refine ⟨fun h0 => (by rw [h0] at hready; cases hready), fun j hj => ?_⟩
        rw [hready] at hj
        rw [List.mem_singleton.1 hj]
        refine wpOp_mono (fun a' w' h => ?_) h
        have hS' : tailed T (listed.setIfInBounds i true) ∨ S w' := by
          cases hT : T.contains i
          · exact Or.inr (h.1 hT)
          · refine Or.inl ⟨i, by simpa using hT, ?_⟩
            have : i < listed.size := by omega
            simp [this]
        exact ⟨hS', seqU_sound hs hQ rest _ _ _ (by simpa using hsz) (clo_step hmem hc) hev hok.2 hS' h.2⟩
  | .two i r j r', listed, a, w, hsz, hc, hev, hok, hS, h => by
    simp only [OrdU.even, Bool.and_eq_true, beq_iff_eq] at hev
    simp only [okOrdU, Bool.and_eq_true, decide_eq_true_eq, beq_iff_eq] at hok
    simp only [wpSeqU] at h
    obtain ⟨⟨⟨hi, hj⟩, hready⟩, hok1, hok2⟩ := hok
    have hlen : (OrdU.two i r j r').len = r.len + 1 := rfl
    rw [hlen]
    have hm : ∀ k, k ∈ Region.ready .any l.toArray listed ↔ k = i ∨ k = j := fun k => by rw [hready]; simp
    have hS' : ∀ k w', k < l.length → (T.contains k = false → S w') → tailed T (listed.setIfInBounds k true) ∨ S w' := fun k w' hk hx => by
      cases hT : T.contains k
      · exact Or.inr (hx hT)
      · refine Or.inl ⟨k, by simpa using hT, ?_⟩
        have : k < listed.size := by omega
        simp [this]
    refine ⟨fun h0 => (by rw [h0] at hready; cases hready), fun k hk => ?_⟩
    rcases (hm k).1 hk with hk' | hk'
    · rw [hk'] at hk ⊢
      refine wpOp_mono (fun a' w' h => ?_) h.1
      exact ⟨hS' _ _ hi h.1, seqU_sound hs hQ r _ _ _ (by simpa using hsz) (clo_step hk hc) hev.2.1 hok1 (hS' _ _ hi h.1) h.2⟩
    · rw [hk'] at hk ⊢
      refine wpOp_mono (fun a' w' h => ?_) h.2
      have := seqU_sound hs hQ r' _ _ _ (by simpa using hsz) (clo_step hk hc) hev.2.2 hok2 (hS' _ _ hj h.1) h.2
      rw [← hev.1] at this
      exact ⟨hS' _ _ hj h.1, this⟩
  | .three i r j r' k r'', listed, a, w, hsz, hc, hev, hok, hS, h => by
    simp only [OrdU.even, Bool.and_eq_true, beq_iff_eq] at hev
    simp only [okOrdU, Bool.and_eq_true, decide_eq_true_eq, beq_iff_eq] at hok
    simp only [wpSeqU] at h
    obtain ⟨⟨⟨⟨hi, hj⟩, hk⟩, hready⟩, ⟨hok1, hok2⟩, hok3⟩ := hok
    obtain ⟨⟨e1, e2⟩, ⟨v1, v2⟩, v3⟩ := hev
    have hlen : (OrdU.three i r j r' k r'').len = r.len + 1 := rfl
    rw [hlen]
    have hm : ∀ x, x ∈ Region.ready .any l.toArray listed ↔ x = i ∨ x = j ∨ x = k := fun x => by rw [hready]; simp
    have hS' : ∀ k w', k < l.length → (T.contains k = false → S w') → tailed T (listed.setIfInBounds k true) ∨ S w' := fun k w' hk hx => by
      cases hT : T.contains k
      · exact Or.inr (hx hT)
      · refine Or.inl ⟨k, by simpa using hT, ?_⟩
        have : k < listed.size := by omega
        simp [this]
    refine ⟨fun h0 => (by rw [h0] at hready; cases hready), fun x hx => ?_⟩
    rcases (hm x).1 hx with hx' | hx' | hx'
    · rw [hx'] at hx ⊢
      refine wpOp_mono (fun a' w' h => ?_) h.1
      exact ⟨hS' _ _ hi h.1, seqU_sound hs hQ r _ _ _ (by simpa using hsz) (clo_step hx hc) v1 hok1 (hS' _ _ hi h.1) h.2⟩
    · rw [hx'] at hx ⊢
      refine wpOp_mono (fun a' w' h => ?_) h.2.1
      have := seqU_sound hs hQ r' _ _ _ (by simpa using hsz) (clo_step hx hc) v2 hok2 (hS' _ _ hj h.1) h.2
      rw [← e1] at this
      exact ⟨hS' _ _ hj h.1, this⟩
    · rw [hx'] at hx ⊢
      refine wpOp_mono (fun a' w' h => ?_) h.2.2
      have := seqU_sound hs hQ r'' _ _ _ (by simpa using hsz) (clo_step hx hc) v3 hok3 (hS' _ _ hk h.1) h.2
      rw [← e2] at this
      exact ⟨hS' _ _ hk h.1, this⟩

/-- The region, walked in one order: what reads under S first, then the tail. -/
theorem wp_region_tailU {id : Nat} {a : Act} {w : World} (S : World → Prop) (T : List Nat) (ord : OrdU) (hm : P.follows .mixedOrders = true) (hlen : ord.len = l.length) (hev : ord.even = true) (hs : Region.noSelect l.toArray = true) (hok : okOrdU l T ord (Array.replicate l.length false) = true)
    (hQ : ∀ (c : List PanicEntry) (a : Act) (d : Tmp) (v : Value) (w : World), Q (.panic c) (a.put (some d) v) w → Q (.panic c) a w) (hS : S w.drew) (h : wpSeqU P l T Q S ord a w.drew) : (Code.region id l.toArray true).wp P Q a w := by
  refine wp_region_any hm ?_
  have := wpAny_of_L _ _ _ _ (seqU_sound hs hQ ord _ a w.drew (by simp) (clo_start l) hev hok (Or.inr hS) h)
  rw [hlen] at this
  simpa using this

theorem useq_nil {a : Act} {w : World} (h : Q .normal a w) : wpSeqU P l T Q S .nil a w := h
/-- A step that needs no memory. -/
theorem useq_pure {i : Nat} {rest : OrdU} {o : Oper} {v : Value} {a : Act} {w : World} (ho : l[i]? = some o) (hq : quietOpU o.op = true) (_hp : pureOpU o.op = true) (hw : Region.wanted o (yielded l.toArray a.tmps) = true)
    (hy : ∀ W, (execOp a.eval o).run P W = .ok (.value v) W) (h : wpSeqU P l T Q S rest (a.put o.dst v) w) : wpSeqU P l T Q S (.one i rest) a w := by
  simp only [wpSeqU, ho, hq, if_true]
  exact ⟨v, .inl ⟨hw, fun W _ => hy W⟩, h⟩
/-- A step that reads. -/
theorem useq_read {i : Nat} {rest : OrdU} {o : Oper} {v : Value} {a : Act} {w : World} (ho : l[i]? = some o) (hq : quietOpU o.op = true) (hp : pureOpU o.op = false) (hw : Region.wanted o (yielded l.toArray a.tmps) = true)
    (hy : ∀ W, S W → (execOp a.eval o).run P W = .ok (.value v) W) (h : wpSeqU P l T Q S rest (a.put o.dst v) w) : wpSeqU P l T Q S (.one i rest) a w := by
  simp only [wpSeqU, ho, hq, hp, if_true]
  exact ⟨v, .inl ⟨hw, hy⟩, h⟩
/-- A step whose guard is off. -/
theorem useq_skip {i : Nat} {rest : OrdU} {o : Oper} {a : Act} {w : World} (ho : l[i]? = some o) (hw : Region.wanted o (yielded l.toArray a.tmps) = false)
    (hS : S w) (h : wpSeqU P l T Q S rest (a.put o.dst undef) w) : wpSeqU P l T Q S (.one i rest) a w := by
  simp only [wpSeqU, ho]
  split
  · exact ⟨undef, .inr ⟨hw, rfl⟩, h⟩
  · unfold wpOp
    simp only [List.getElem?_toArray, ho, hw, Bool.false_eq_true, if_false]
    exact ⟨fun _ => hS, h⟩
/-- A step that makes memory, or calls, ahead of the tail. -/
theorem useq_step {i : Nat} {rest : OrdU} {o : Oper} {a : Act} {w : World} (ho : l[i]? = some o) (hq : quietOpU o.op = false) (hw : Region.wanted o (yielded l.toArray a.tmps) = true)
    (h : ∀ K : Act → World → Prop, Shut (∀ a w, S w → wpSeqU P l T Q S rest a w → K a w) → o.wp P a w K Q) : wpSeqU P l T Q S (.one i rest) a w := by
  simp only [wpSeqU, ho, hq]
  unfold wpOp
  simp only [List.getElem?_toArray, ho, hw, if_true]
  exact .inl (h _ fun a w hS hW => ⟨fun _ => hS, hW⟩)
/-- A step of the tail. -/
theorem useq_last {i : Nat} {rest : OrdU} {o : Oper} {a : Act} {w : World} (ho : l[i]? = some o) (hq : quietOpU o.op = false) (hT : T.contains i = true) (hw : Region.wanted o (yielded l.toArray a.tmps) = true)
    (h : ∀ K : Act → World → Prop, Shut (∀ a w, wpSeqU P l T Q S rest a w → K a w) → o.wp P a w K Q) : wpSeqU P l T Q S (.one i rest) a w := by
  simp only [wpSeqU, ho, hq]
  unfold wpOp
  simp only [List.getElem?_toArray, ho, hw, if_true]
  exact .inl (h _ fun a w hW => ⟨fun hn => absurd (hn.symm.trans hT) (by decide), hW⟩)
end

section
variable {P : Program} {l : List Oper} {Q : Exit → Act → World → Prop} {S : World → Prop} {T : List Nat}
/-- Two that may come up, neither of the tail. -/
theorem useq_both {i j : Nat} {r r' : OrdU} {o o' : Oper} {a : Act} {w : World} (ho : l[i]? = some o) (ho' : l[j]? = some o') (hw : Region.wanted o (yielded l.toArray a.tmps) = true) (hw' : Region.wanted o' (yielded l.toArray a.tmps) = true)
    (h1 : ∀ K : Act → World → Prop, Shut (∀ a w, S w → wpSeqU P l T Q S r a w → K a w) → o.wp P a w K Q) (h2 : ∀ K : Act → World → Prop, Shut (∀ a w, S w → wpSeqU P l T Q S r' a w → K a w) → o'.wp P a w K Q) : wpSeqU P l T Q S (.two i r j r') a w := by
  constructor
  · unfold wpOp
    simp only [List.getElem?_toArray, ho, hw, if_true]
    exact .inl (h1 _ fun a w hS hW => ⟨fun _ => hS, hW⟩)
  · unfold wpOp
    simp only [List.getElem?_toArray, ho', hw', if_true]
    exact .inl (h2 _ fun a w hS hW => ⟨fun _ => hS, hW⟩)
/-- Three that may come up, none of the tail. -/
theorem useq_three {i j k : Nat} {r r' r'' : OrdU} {o o' o'' : Oper} {a : Act} {w : World} (ho : l[i]? = some o) (ho' : l[j]? = some o') (ho'' : l[k]? = some o'') (hw : Region.wanted o (yielded l.toArray a.tmps) = true) (hw' : Region.wanted o' (yielded l.toArray a.tmps) = true) (hw'' : Region.wanted o'' (yielded l.toArray a.tmps) = true)
    (h1 : ∀ K : Act → World → Prop, Shut (∀ a w, S w → wpSeqU P l T Q S r a w → K a w) → o.wp P a w K Q) (h2 : ∀ K : Act → World → Prop, Shut (∀ a w, S w → wpSeqU P l T Q S r' a w → K a w) → o'.wp P a w K Q) (h3 : ∀ K : Act → World → Prop, Shut (∀ a w, S w → wpSeqU P l T Q S r'' a w → K a w) → o''.wp P a w K Q) : wpSeqU P l T Q S (.three i r j r' k r'') a w := by
  refine ⟨?_, ?_, ?_⟩
  · unfold wpOp
    simp only [List.getElem?_toArray, ho, hw, if_true]
    exact .inl (h1 _ fun a w hS hW => ⟨fun _ => hS, hW⟩)
  · unfold wpOp
    simp only [List.getElem?_toArray, ho', hw', if_true]
    exact .inl (h2 _ fun a w hS hW => ⟨fun _ => hS, hW⟩)
  · unfold wpOp
    simp only [List.getElem?_toArray, ho'', hw'', if_true]
    exact .inl (h3 _ fun a w hS hW => ⟨fun _ => hS, hW⟩)
end
end Go.Proofs.Ytcmgkekaeafgaaa

namespace Go.Proofs.Ytcmgkekaeafgaaa
open Go Go.RowKit

/-- The number of a word of letters below 6: numbers go as words are ordered. -/
def wval (w : List Nat) : Nat := w.foldl (fun v l => v * 7 + (l + 1)) 0
theorem wval_snoc (w : List Nat) (l : Nat) : wval (w ++ [l]) = wval w * 7 + (l + 1) := by simp [wval]
theorem wval_nil : wval [] = 0 := rfl
theorem snoc_cases {α : Type} (w : List α) : w = [] ∨ ∃ u l, w = u ++ [l] := by
  rcases List.eq_nil_or_concat w with h | ⟨u, l, h⟩
  · exact Or.inl h
  · exact Or.inr ⟨u, l, by simpa using h⟩
theorem wval_inj : ∀ (n : Nat) (u v : List Nat), u.length ≤ n → (∀ l ∈ u, l < 6) → (∀ l ∈ v, l < 6) → wval u = wval v → u = v := by
  intro n
  induction n with
  | zero =>
    intro u v hu _ _ h
    obtain rfl : u = [] := List.eq_nil_of_length_eq_zero (by omega)
    rcases snoc_cases v with rfl | ⟨v, m, rfl⟩
    · rfl
    · rw [wval_snoc, wval_nil] at h; omega
  | succ n ih =>
    intro u v hu h1 h2 h
    rcases snoc_cases u with rfl | ⟨u, l, rfl⟩
    · rcases snoc_cases v with rfl | ⟨v, m, rfl⟩
      · rfl
      · rw [wval_snoc, wval_nil] at h; omega
    · rcases snoc_cases v with rfl | ⟨v, m, rfl⟩
      · rw [wval_snoc, wval_nil] at h; omega
      · have hl := h1 l (by simp)
        have hm := h2 m (by simp)
        rw [wval_snoc, wval_snoc] at h
        have e1 : l = m := by omega
        have e2 : wval u = wval v := by omega
        simp only [List.length_append, List.length_singleton] at hu
        rw [e1, ih u v (by omega) (fun x hx => h1 x (by simp [hx])) (fun x hx => h2 x (by simp [hx])) e2]

/-- The nodes that a word leads to. -/
inductive Goes (d : Nat → Nat → List Nat) (start : List Nat) : List Nat → Nat → Prop where
  | nil {x : Nat} (h : x ∈ start) : Goes d start [] x
  | snoc {w : List Nat} {l n x : Nat} (h : Goes d start w n) (hx : x ∈ d n l) : Goes d start (w ++ [l]) x
theorem Goes.inv {d : Nat → Nat → List Nat} {start w : List Nat} {l x : Nat} (h : Goes d start (w ++ [l]) x) : ∃ n, Goes d start w n ∧ x ∈ d n l := by
  generalize hv : w ++ [l] = v at h
  cases h with
  | nil _ => simp at hv
  | @snoc w' l' n _ h hx =>
    have := List.append_inj' hv rfl
    obtain ⟨rfl, h2⟩ := this
    simp at h2
    subst h2
    exact ⟨n, h, hx⟩
theorem Goes.inv_nil {d : Nat → Nat → List Nat} {start : List Nat} {x : Nat} (h : Goes d start [] x) : x ∈ start := by
  generalize hv : ([] : List Nat) = v at h
  cases h with
  | nil h => exact h
  | snoc _ _ => simp at hv

/-- Nodes seen so far, and the new ones among some nodes. -/
def visN (st : List Bool × List Nat) (n : Nat) : List Bool × List Nat := if st.1.getD n true then st else (st.1.set n true, st.2 ++ [n])
def vis (S : List Bool) (ns : List Nat) : List Bool × List Nat := ns.foldl visN (S, [])
theorem vis_snoc (S : List Bool) (ns : List Nat) (n : Nat) : vis S (ns ++ [n]) = visN (vis S ns) n := by simp [vis]
theorem vis_spec (S : List Bool) (ns : List Nat) (hn : ∀ n ∈ ns, n < S.length) :
    (vis S ns).1.length = S.length ∧ (∀ x, x < S.length → ((vis S ns).1.getD x true = true ↔ S.getD x true = true ∨ x ∈ ns)) ∧ (∀ x, x ∈ (vis S ns).2 ↔ x ∈ ns ∧ S.getD x true = false) := by
  have key : ∀ k, k ≤ ns.length → (vis S (ns.take k)).1.length = S.length ∧ (∀ x, x < S.length → ((vis S (ns.take k)).1.getD x true = true ↔ S.getD x true = true ∨ x ∈ ns.take k)) ∧ (∀ x, x ∈ (vis S (ns.take k)).2 ↔ x ∈ ns.take k ∧ S.getD x true = false) := by
    intro k
    induction k with
    | zero => intro _; exact ⟨rfl, fun x _ => by simp [vis], fun x => by simp [vis]⟩
    | succ k ih =>
      intro hk
      obtain ⟨h1, h2, h3⟩ := ih (by omega)
      have hx : ns[k]? = some ns[k] := List.getElem?_eq_getElem (by omega)
      have hnk := hn ns[k] (List.getElem_mem _)
      rw [List.take_add_one, hx]
      simp only [Option.toList_some]
      generalize ns[k] = n at *
      rw [vis_snoc]
      generalize vis S (ns.take k) = st at *
      obtain ⟨T, fr⟩ := st
      simp only at h1 h2 h3
      unfold visN
      simp only
      cases hT : T.getD n true
      · have hTS := h2 n hnk
        rw [hT] at hTS
        have hnS : S.getD n true = false := by cases h : S.getD n true <;> simp_all
        have hnn : n ∉ ns.take k := fun h => by simp [h] at hTS
        refine ⟨by simp [h1], fun x hx => ?_, fun x => ?_⟩
        · simp only [Bool.false_eq_true, if_false, List.getD_eq_getElem?_getD, List.mem_append, List.mem_singleton]
          by_cases e : x = n
          · subst e
            rw [List.getElem?_set_self (by omega)]
            simp
          · rw [List.getElem?_set_ne (by omega)]
            have := h2 x hx
            rw [List.getD_eq_getElem?_getD, List.getD_eq_getElem?_getD] at this
            simp only [e, or_false]
            exact this
        · simp only [Bool.false_eq_true, if_false, List.mem_append, List.mem_singleton]
          constructor
          · rintro (h | rfl)
            · exact ⟨Or.inl ((h3 x).1 h).1, ((h3 x).1 h).2⟩
            · exact ⟨Or.inr rfl, hnS⟩
          · rintro ⟨h | rfl, h'⟩
            · exact Or.inl ((h3 x).2 ⟨h, h'⟩)
            · exact Or.inr rfl
      · refine ⟨h1, fun x hx => ?_, fun x => ?_⟩
        · simp only [if_true, List.mem_append, List.mem_singleton]
          rw [h2 x hx]
          have hTS := (h2 n hnk).1 hT
          constructor
          · rintro (h | h)
            · exact Or.inl h
            · exact Or.inr (Or.inl h)
          · rintro (h | h | rfl)
            · exact Or.inl h
            · exact Or.inr h
            · exact hTS
        · simp only [if_true, List.mem_append, List.mem_singleton]
          rw [h3 x]
          have hTS := (h2 n hnk).1 hT
          constructor
          · rintro ⟨h, h'⟩; exact ⟨Or.inl h, h'⟩
          · rintro ⟨h | rfl, h'⟩
            · exact ⟨h, h'⟩
            · rcases hTS with h | h
              · rw [h] at h'; cases h'
              · exact ⟨h, h'⟩
  have := key ns.length (Nat.le_refl _)
  rwa [List.take_length] at this

/-- A step of the search: where it came from, by which letter, and its nodes. -/
structure Stp where
  parent : Int
  letter : Nat
  nodes : List Nat
/-- The search stands at the letter number j of the step number i. -/
structure Bfs (d : Nat → Nat → List Nat) (start : List Nat) (goal : Nat → Bool) (L : List Nat) (N : Nat) (S : List Bool) (st : List Stp) (ws : List (List Nat)) (i j : Nat) : Prop where
  len : S.length = N
  wl : ws.length = st.length
  small : ∀ (k : Nat) (p : Stp), st[k]? = some p → ∀ x ∈ p.nodes, x < N
  some_ : ∀ (k : Nat) (p : Stp), st[k]? = some p → p.nodes ≠ []
  word : ∀ (k : Nat) (p : Stp), st[k]? = some p → (k = 0 ∧ p.parent = -1 ∧ ws.getD k [] = []) ∨ (∃ a b : Nat, p.parent = (a : Int) ∧ a < k ∧ (a < i ∨ a = i ∧ b < j) ∧ L[b]? = some p.letter ∧ ws.getD k [] = ws.getD a [] ++ [p.letter])
  goes : ∀ (k : Nat) (p : Stp), st[k]? = some p → ∀ x ∈ p.nodes, Goes d start (ws.getD k []) x
  incr : ∀ a b : Nat, a < b → b < st.length → wval (ws.getD a []) < wval (ws.getD b [])
  seen : ∀ x, x < N → (S.getD x true = true ↔ ∃ (k : Nat) (p : Stp), st[k]? = some p ∧ x ∈ p.nodes)
  first : ∀ x ∈ start, ∃ (p : Stp), st[0]? = some p ∧ x ∈ p.nodes
  zero : ∀ p, st[0]? = some p → ws.getD 0 [] = []
  proc : ∀ (k : Nat) (p : Stp) (b l : Nat), st[k]? = some p → L[b]? = some l → (k < i ∨ k = i ∧ b < j) → ∀ n ∈ p.nodes, ∀ x ∈ d n l, ∃ (k' : Nat) (q : Stp), st[k']? = some q ∧ x ∈ q.nodes ∧ wval (ws.getD k' []) ≤ wval (ws.getD k [] ++ [l])
  dull : ∀ (k : Nat) (p : Stp), st[k]? = some p → ∀ x ∈ p.nodes, goal x = false
section
variable {d : Nat → Nat → List Nat} {start : List Nat} {goal : Nat → Bool} {L : List Nat} {N : Nat} {S : List Bool} {st : List Stp} {ws : List (List Nat)} {i j : Nat}
/-- Letters that rise, below 6. -/
def Rise (L : List Nat) : Prop := (∀ l ∈ L, l < 6) ∧ ∀ (a b x y : Nat), L[a]? = some x → L[b]? = some y → a < b → x < y
/-- Whatever a word that is behind the search leads to has been seen. -/
theorem Bfs.before (h : Bfs d start goal L N S st ws i j) {V : Nat} (hV : ∀ (k : Nat) (p : Stp) (b l : Nat), st[k]? = some p → L[b]? = some l → wval (ws.getD k [] ++ [l]) < V → (k < i ∨ k = i ∧ b < j)) :
    ∀ (m : Nat) (v : List Nat), v.length ≤ m → (∀ l ∈ v, l ∈ L) → wval v < V → ∀ x, Goes d start v x → ∃ (k : Nat) (p : Stp), st[k]? = some p ∧ x ∈ p.nodes ∧ wval (ws.getD k []) ≤ wval v := by
  intro m
  induction m with
  | zero =>
    intro v hv _ _ x hx
    obtain rfl : v = [] := List.eq_nil_of_length_eq_zero (by omega)
    obtain ⟨p, hp, hxp⟩ := h.first x hx.inv_nil
    exact ⟨0, p, hp, hxp, by rw [h.zero p hp]; exact Nat.le_refl _⟩
  | succ m ih =>
    intro v hv hl hlt x hx
    rcases snoc_cases v with rfl | ⟨u, l, rfl⟩
    · obtain ⟨p, hp, hxp⟩ := h.first x hx.inv_nil
      exact ⟨0, p, hp, hxp, by rw [h.zero p hp]; exact Nat.le_refl _⟩
    · obtain ⟨n, hn, hxn⟩ := hx.inv
      simp only [List.length_append, List.length_singleton] at hv
      have hlL := hl l (by simp)
      obtain ⟨b, hb⟩ := List.getElem?_of_mem hlL
      rw [wval_snoc] at hlt
      obtain ⟨k, p, hp, hnp, hk⟩ := ih u (by omega) (fun x hx => hl x (by simp [hx])) (by omega) n hn
      have hlt2 : wval (ws.getD k [] ++ [l]) < V := by rw [wval_snoc]; omega
      obtain ⟨k', q, hq, hxq, hk'⟩ := h.proc k p b l hp hb (hV k p b l hp hb hlt2) n hnp x hxn
      exact ⟨k', q, hq, hxq, by rw [wval_snoc] at hk' ⊢; omega⟩
/-- The search has come to its end: no word leads to a goal. -/
theorem Bfs.none (h : Bfs d start goal L N S st ws i j) (hend : st.length ≤ i) {v : List Nat} (hv : ∀ l ∈ v, l ∈ L) {x : Nat} (hx : Goes d start v x) : goal x = false := by
  by_cases hst : st = []
  · subst hst
    exfalso
    have : ∀ (m : Nat) (v : List Nat), v.length ≤ m → ∀ x, ¬ Goes d start v x := by
      intro m
      induction m with
      | zero =>
        intro v hv x hx
        obtain rfl : v = [] := List.eq_nil_of_length_eq_zero (by omega)
        obtain ⟨p, hp, _⟩ := h.first x hx.inv_nil
        simp at hp
      | succ m ih =>
        intro v hv x hx
        rcases snoc_cases v with rfl | ⟨u, l, rfl⟩
        · obtain ⟨p, hp, _⟩ := h.first x hx.inv_nil
          simp at hp
        · obtain ⟨n, hn, _⟩ := hx.inv
          exact ih u (by simp at hv; omega) n hn
    exact this v.length v (Nat.le_refl _) x hx
  · obtain ⟨k, p, hp, hxp, _⟩ := h.before (V := wval v + 1) (fun k p b l hp hb _ => Or.inl (by have := (List.getElem?_eq_some_iff.1 hp).1; omega)) v.length v (Nat.le_refl _) hv (by omega) x hx
    exact h.dull k p hp x hxp
/-- The next word is behind all that have been taken. -/
theorem Bfs.ahead (h : Bfs d start goal L N S st ws i j) (hL : Rise L) {l : Nat} (hi : i < st.length) (hl : L[j]? = some l) {k : Nat} (hk : k < st.length) : wval (ws.getD k []) < wval (ws.getD i [] ++ [l]) := by
  rw [wval_snoc]
  rcases h.word k _ (List.getElem?_eq_getElem hk) with ⟨_, _, e⟩ | ⟨a, b, _, hak, hab, hb, e⟩
  · rw [e, wval_nil]; omega
  · rw [e, wval_snoc]
    have hbl := hL.1 _ (List.mem_of_getElem? hb)
    rcases hab with h1 | ⟨rfl, h2⟩
    · have := h.incr a i h1 hi
      omega
    · have := hL.2 b j _ _ hb hl h2
      omega
/-- What comes ahead of the next word has been taken. -/
theorem Bfs.taken (h : Bfs d start goal L N S st ws i j) (hL : Rise L) {l : Nat} (hi : i < st.length) (hl : L[j]? = some l) (k : Nat) (p : Stp) (b m : Nat) (hp : st[k]? = some p) (hb : L[b]? = some m) (hlt : wval (ws.getD k [] ++ [m]) < wval (ws.getD i [] ++ [l])) : k < i ∨ k = i ∧ b < j := by
  rw [wval_snoc, wval_snoc] at hlt
  have hk := (List.getElem?_eq_some_iff.1 hp).1
  have h1 := hL.1 _ (List.mem_of_getElem? hb)
  have h2 := hL.1 _ (List.mem_of_getElem? hl)
  rcases Nat.lt_trichotomy k i with h3 | h3 | h3
  · exact Or.inl h3
  · subst h3
    refine Or.inr ⟨rfl, ?_⟩
    rcases Nat.lt_trichotomy b j with h4 | h4 | h4
    · exact h4
    · subst h4
      rw [hb] at hl
      have := Option.some.inj hl
      omega
    · have := hL.2 j b _ _ hl hb h4
      omega
  · have := h.incr i k h3 hk
    omega
/-- A goal among the new nodes: the word is the first that leads to one. -/
theorem Bfs.found (h : Bfs d start goal L N S st ws i j) (hL : Rise L) {l : Nat} (hi : i < st.length) (hl : L[j]? = some l) {v : List Nat} (hv : ∀ x ∈ v, x ∈ L) (hlt : wval v < wval (ws.getD i [] ++ [l])) {x : Nat} (hx : Goes d start v x) : goal x = false := by
  obtain ⟨k, p, hp, hxp, _⟩ := h.before (fun k p b m hp hb hlt => h.taken hL hi hl k p b m hp hb hlt) v.length v (Nat.le_refl _) hv hlt x hx
  exact h.dull k p hp x hxp
/-- All letters of a step are done. -/
theorem Bfs.row (h : Bfs d start goal L N S st ws i j) (hj : L.length ≤ j) : Bfs d start goal L N S st ws (i + 1) 0 :=
  { h with
    word := fun k p hp => by
      rcases h.word k p hp with h1 | ⟨a, b, h1, h2, h3, h4⟩
      · exact Or.inl h1
      · exact Or.inr ⟨a, b, h1, h2, by omega, h4⟩
    proc := fun k p b l hp hb hk => by
      have hbl := (List.getElem?_eq_some_iff.1 hb).1
      exact h.proc k p b l hp hb (by omega) }
/-- The steps behind a visit. -/
def addS (st : List Stp) (a : Int) (l : Nat) (fr : List Nat) : List Stp := if fr = [] then st else st ++ [⟨a, l, fr⟩]
def addW (ws : List (List Nat)) (w : List Nat) (fr : List Nat) : List (List Nat) := if fr = [] then ws else ws ++ [w]
theorem getD_left {ws : List (List Nat)} {k : Nat} (w : List Nat) (hk : k < ws.length) : (ws ++ [w]).getD k [] = ws.getD k [] := by
  rw [List.getD_eq_getElem?_getD, List.getD_eq_getElem?_getD, List.getElem?_append_left hk]
theorem getD_last {ws : List (List Nat)} (w : List Nat) : (ws ++ [w]).getD ws.length [] = w := by
  rw [List.getD_eq_getElem?_getD, List.getElem?_append_right (Nat.le_refl _), Nat.sub_self]
  rfl
/-- One letter more. -/
theorem Bfs.step (h : Bfs d start goal L N S st ws i j) (hL : Rise L) {l : Nat} {pi : Stp} (hi : st[i]? = some pi) (hl : L[j]? = some l) {rs : List Nat} (hrs : ∀ x, x ∈ rs ↔ ∃ n ∈ pi.nodes, x ∈ d n l) (hN : ∀ x ∈ rs, x < N) (hg : ∀ x ∈ (vis S rs).2, goal x = false) :
    Bfs d start goal L N (vis S rs).1 (addS st i l (vis S rs).2) (addW ws (ws.getD i [] ++ [l]) (vis S rs).2) i (j + 1) := by
  have hil := (List.getElem?_eq_some_iff.1 hi).1
  obtain ⟨v1, v2, v3⟩ := vis_spec S rs (fun n hn => by rw [h.len]; exact hN n hn)
  generalize (vis S rs).1 = T at *
  generalize (vis S rs).2 = fr at *
  have hahead := fun k hk => h.ahead hL hil hl (k := k) hk
  by_cases hfr : fr = []
  · subst hfr
    rw [addS, if_pos rfl, addW, if_pos rfl]
    have hsub : ∀ x ∈ rs, S.getD x true = true := fun x hx => by
      cases hS : S.getD x true
      · have := (v3 x).2 ⟨hx, hS⟩
        cases this
      · rfl
    refine { h with len := v1.trans h.len, word := ?_, seen := ?_, proc := ?_ }
    · intro k p hp
      rcases h.word k p hp with h1 | ⟨a, b, h1, h2, h3, h4⟩
      · exact Or.inl h1
      · exact Or.inr ⟨a, b, h1, h2, by omega, h4⟩
    · intro x hx
      rw [v2 x (by rw [h.len]; exact hx)]
      constructor
      · rintro (h1 | h1)
        · exact (h.seen x hx).1 h1
        · exact (h.seen x hx).1 (hsub x h1)
      · intro h1
        exact Or.inl ((h.seen x hx).2 h1)
    · intro k p b m hp hb hk n hn x hx
      by_cases hkj : k = i ∧ b = j
      · obtain ⟨rfl, rfl⟩ := hkj
        rw [hi] at hp
        obtain rfl := Option.some.inj hp
        rw [hl] at hb
        obtain rfl := Option.some.inj hb
        have hxr := (hrs x).2 ⟨n, hn, hx⟩
        obtain ⟨k', q, hq, hxq⟩ := (h.seen x (hN x hxr)).1 (hsub x hxr)
        exact ⟨k', q, hq, hxq, Nat.le_of_lt (hahead k' (List.getElem?_eq_some_iff.1 hq).1)⟩
      · exact h.proc k p b m hp hb (by omega) n hn x hx
  · rw [addS, if_neg hfr, addW, if_neg hfr]
    have hold : ∀ {k : Nat} {p : Stp}, (st ++ [(⟨i, l, fr⟩ : Stp)])[k]? = some p → (k < st.length ∧ st[k]? = some p) ∨ (k = st.length ∧ p = ⟨i, l, fr⟩) := by
      intro k p hp
      rcases Nat.lt_trichotomy k st.length with hk | hk | hk
      · rw [List.getElem?_append_left hk] at hp
        exact Or.inl ⟨hk, hp⟩
      · rw [List.getElem?_append_right (by omega), hk, Nat.sub_self] at hp
        exact Or.inr ⟨hk, (Option.some.inj hp).symm⟩
      · rw [List.getElem?_eq_none (by simp; omega)] at hp
        cases hp
    have hkeep : ∀ {k : Nat} {p : Stp}, st[k]? = some p → (st ++ [(⟨i, l, fr⟩ : Stp)])[k]? = some p := fun {k p} hp => by
      rw [List.getElem?_append_left (List.getElem?_eq_some_iff.1 hp).1]; exact hp
    have hnew : (st ++ [(⟨i, l, fr⟩ : Stp)])[st.length]? = some ⟨i, l, fr⟩ := by rw [List.getElem?_append_right (Nat.le_refl _), Nat.sub_self]; rfl
    have hwl := h.wl
    have hgl : ∀ k, k < st.length → (ws ++ [ws.getD i [] ++ [l]]).getD k [] = ws.getD k [] := fun k hk => getD_left _ (by omega)
    have hgn : (ws ++ [ws.getD i [] ++ [l]]).getD st.length [] = ws.getD i [] ++ [l] := by rw [← hwl]; exact getD_last _
    have hfrs : ∀ x ∈ fr, x ∈ rs ∧ S.getD x true = false := fun x hx => (v3 x).1 hx
    refine ⟨v1.trans h.len, by simp [hwl], ?_, ?_, ?_, ?_, ?_, ?_, ?_, ?_, ?_, ?_⟩
    · intro k p hp x hx
      rcases hold hp with ⟨_, h1⟩ | ⟨_, rfl⟩
      · exact h.small k p h1 x hx
      · exact hN x (hfrs x hx).1
    · intro k p hp
      rcases hold hp with ⟨_, h1⟩ | ⟨_, rfl⟩
      · exact h.some_ k p h1
      · exact hfr
    · intro k p hp
      rcases hold hp with ⟨h0, h1⟩ | ⟨rfl, rfl⟩
      · rcases h.word k p h1 with ⟨e0, e1, e2⟩ | ⟨a, b, e1, e2, e3, e4, e5⟩
        · exact Or.inl ⟨e0, e1, by rw [hgl k h0]; exact e2⟩
        · exact Or.inr ⟨a, b, e1, e2, by omega, e4, by rw [hgl k h0, hgl a (by omega)]; exact e5⟩
      · exact Or.inr ⟨i, j, rfl, hil, Or.inr ⟨rfl, by omega⟩, hl, by rw [hgn, hgl i hil]⟩
    · intro k p hp x hx
      rcases hold hp with ⟨h0, h1⟩ | ⟨rfl, rfl⟩
      · rw [hgl k h0]; exact h.goes k p h1 x hx
      · rw [hgn]
        obtain ⟨n, hn, hxn⟩ := (hrs x).1 (hfrs x hx).1
        exact .snoc (h.goes i pi hi n hn) hxn
    · intro a b hab hb
      simp only [List.length_append, List.length_singleton] at hb
      by_cases hbl : b < st.length
      · rw [hgl a (by omega), hgl b hbl]; exact h.incr a b hab hbl
      · obtain rfl : b = st.length := by omega
        rw [hgl a hab, hgn]; exact hahead a hab
    · intro x hx
      rw [v2 x (by rw [h.len]; exact hx)]
      constructor
      · rintro (h1 | h1)
        · obtain ⟨k, p, hp, hxp⟩ := (h.seen x hx).1 h1
          exact ⟨k, p, hkeep hp, hxp⟩
        · cases hS : S.getD x true
          · exact ⟨_, _, hnew, (v3 x).2 ⟨h1, hS⟩⟩
          · obtain ⟨k, p, hp, hxp⟩ := (h.seen x hx).1 hS
            exact ⟨k, p, hkeep hp, hxp⟩
      · rintro ⟨k, p, hp, hxp⟩
        rcases hold hp with ⟨_, h1⟩ | ⟨_, rfl⟩
        · exact Or.inl ((h.seen x hx).2 ⟨k, p, h1, hxp⟩)
        · exact Or.inr (hfrs x hxp).1
    · intro x hx
      obtain ⟨p, hp, hxp⟩ := h.first x hx
      exact ⟨p, hkeep hp, hxp⟩
    · intro p hp
      rcases hold hp with ⟨h0, h1⟩ | ⟨h0, _⟩
      · rw [hgl 0 h0]; exact h.zero p h1
      · omega
    · intro k p b m hp hb hk n hn x hx
      rcases hold hp with ⟨h0, h1⟩ | ⟨rfl, rfl⟩
      · rw [hgl k h0]
        by_cases hkj : k = i ∧ b = j
        · obtain ⟨rfl, rfl⟩ := hkj
          rw [hi] at h1
          obtain rfl := Option.some.inj h1
          rw [hl] at hb
          obtain rfl := Option.some.inj hb
          have hxr := (hrs x).2 ⟨n, hn, hx⟩
          cases hS : S.getD x true
          · exact ⟨_, _, hnew, (v3 x).2 ⟨hxr, hS⟩, by rw [hgn]; exact Nat.le_refl _⟩
          · obtain ⟨k', q, hq, hxq⟩ := (h.seen x (hN x hxr)).1 hS
            have hk' := (List.getElem?_eq_some_iff.1 hq).1
            exact ⟨k', q, hkeep hq, hxq, by rw [hgl k' hk']; exact Nat.le_of_lt (hahead k' hk')⟩
        · obtain ⟨k', q, hq, hxq, hle⟩ := h.proc k p b m h1 hb (by omega) n hn x hx
          have hk' := (List.getElem?_eq_some_iff.1 hq).1
          exact ⟨k', q, hkeep hq, hxq, by rw [hgl k' hk']; exact hle⟩
      · omega
    · intro k p hp x hx
      rcases hold hp with ⟨_, h1⟩ | ⟨_, rfl⟩
      · exact h.dull k p h1 x hx
      · exact hg x hx
/-- The search begins. -/
theorem Bfs.begin_ {d : Nat → Nat → List Nat} {start : List Nat} {goal : Nat → Bool} {L : List Nat} {N : Nat} (hN : ∀ x ∈ start, x < N) (hg : ∀ x ∈ (vis (List.replicate N false) start).2, goal x = false) :
    Bfs d start goal L N (vis (List.replicate N false) start).1 (addS [] (-1) 0 (vis (List.replicate N false) start).2) (addW [] [] (vis (List.replicate N false) start).2) 0 0 := by
  obtain ⟨v1, v2, v3⟩ := vis_spec (List.replicate N false) start (fun n hn => by simpa using hN n hn)
  have hf : ∀ x, x < N → (List.replicate N false).getD x true = false := fun x hx => by simp [List.getD_eq_getElem?_getD, hx]
  generalize (vis (List.replicate N false) start).1 = T at *
  generalize (vis (List.replicate N false) start).2 = fr at *
  have hfr : ∀ x, x ∈ fr ↔ x ∈ start := fun x => (v3 x).trans ⟨fun h => h.1, fun h => ⟨h, hf x (hN x h)⟩⟩
  have hT : ∀ x, x < N → (T.getD x true = true ↔ x ∈ start) := fun x hx => by
    rw [v2 x (by simpa using hx), hf x hx]
    simp
  by_cases he : fr = []
  · subst he
    rw [addS, if_pos rfl, addW, if_pos rfl]
    have hs : ∀ x, x ∉ start := fun x hx => by have := (hfr x).2 hx; cases this
    refine ⟨by simpa using v1, rfl, fun k p hp => by simp at hp, fun k p hp => by simp at hp, fun k p hp => by simp at hp, fun k p hp => by simp at hp, fun a b _ hb => by simp at hb, fun x hx => ?_, fun x hx => absurd hx (hs x), fun p hp => by simp at hp, fun k p b l hp => by simp at hp, fun k p hp => by simp at hp⟩
    rw [hT x hx]
    exact ⟨fun h => absurd h (hs x), fun ⟨k, p, hp, _⟩ => by simp at hp⟩
  · rw [addS, if_neg he, addW, if_neg he]
    have hold : ∀ {k : Nat} {p : Stp}, ([] ++ [(⟨-1, 0, fr⟩ : Stp)])[k]? = some p → k = 0 ∧ p = ⟨-1, 0, fr⟩ := by
      intro k p hp
      cases k with
      | zero => exact ⟨rfl, by simpa using hp.symm⟩
      | succ k => simp at hp
    refine ⟨by simpa using v1, rfl, ?_, ?_, ?_, ?_, ?_, ?_, ?_, ?_, ?_, ?_⟩
    · intro k p hp x hx
      obtain ⟨rfl, rfl⟩ := hold hp
      exact hN x ((hfr x).1 hx)
    · intro k p hp
      obtain ⟨rfl, rfl⟩ := hold hp
      exact he
    · intro k p hp
      obtain ⟨rfl, rfl⟩ := hold hp
      exact Or.inl ⟨rfl, rfl, rfl⟩
    · intro k p hp x hx
      obtain ⟨rfl, rfl⟩ := hold hp
      exact .nil ((hfr x).1 hx)
    · intro a b hab hb
      simp at hb; omega
    · intro x hx
      rw [hT x hx]
      constructor
      · intro h
        exact ⟨0, _, rfl, (hfr x).2 h⟩
      · rintro ⟨k, p, hp, hxp⟩
        obtain ⟨rfl, rfl⟩ := hold hp
        exact (hfr x).1 hxp
    · intro x hx
      exact ⟨_, rfl, (hfr x).2 hx⟩
    · intro p _
      rfl
    · intro k p b l hp _ hk
      omega
    · intro k p hp x hx
      obtain ⟨rfl, rfl⟩ := hold hp
      exact hg x hx
end
end Go.Proofs.Ytcmgkekaeafgaaa

namespace Go.Proofs.Ytcmgkekaeafgaaa

theorem visN_cnt (st : List Bool × List Nat) (n : Nat) : (visN st n).1.count true + st.2.length = st.1.count true + (visN st n).2.length := by
  unfold visN
  cases h : st.1.getD n true
  · have hn : n < st.1.length := by
      rcases Nat.lt_or_ge n st.1.length with h1 | h1
      · exact h1
      · rw [List.getD_eq_getElem?_getD, List.getElem?_eq_none h1] at h; cases h
    have hv : st.1[n] = false := by rw [List.getD_eq_getElem?_getD, List.getElem?_eq_getElem hn] at h; exact h
    simp only [Bool.false_eq_true, if_false]
    rw [List.count_set hn, hv]
    simp
    omega
  · simp
theorem foldl_cnt (ns : List Nat) (st : List Bool × List Nat) : (ns.foldl visN st).1.count true + st.2.length = st.1.count true + (ns.foldl visN st).2.length := by
  induction ns generalizing st with
  | nil => rfl
  | cons n r ih =>
    have h1 := ih (visN st n)
    have h2 := visN_cnt st n
    rw [List.foldl_cons]
    omega
theorem vis_cnt (S : List Bool) (ns : List Nat) : (vis S ns).1.count true = S.count true + (vis S ns).2.length := by
  have := foldl_cnt ns (S, [])
  simpa [vis] using this
/-- All seen nodes stand in some step, each once. -/
def Cnt (S : List Bool) (st : List Stp) : Prop := (st.map fun p => p.nodes.length).sum = S.count true
theorem Cnt.add {S : List Bool} {st : List Stp} (h : Cnt S st) (a : Int) (l : Nat) (ns : List Nat) : Cnt (vis S ns).1 (addS st a l (vis S ns).2) := by
  unfold Cnt at h ⊢
  rw [vis_cnt, addS]
  by_cases he : (vis S ns).2 = []
  · rw [if_pos he, he, h]; rfl
  · rw [if_neg he]
    simp [h]
theorem Cnt.nil (N : Nat) : Cnt (List.replicate N false) [] := by
  unfold Cnt
  simp [List.count_replicate]
theorem sum_len {l : List Nat} (h : ∀ x ∈ l, 1 ≤ x) : l.length ≤ l.sum := by
  induction l with
  | nil => simp
  | cons x r ih =>
    have h1 := ih (fun y hy => h y (by simp [hy]))
    have h2 := h x (by simp)
    simp
    omega
theorem sum_mem {l : List Nat} {x : Nat} (h : x ∈ l) : x ≤ l.sum := by
  induction l with
  | nil => cases h
  | cons y r ih =>
    rcases List.mem_cons.1 h with rfl | h
    · simp
    · have := ih h
      simp
      omega
theorem Cnt.steps {S : List Bool} {st : List Stp} (h : Cnt S st) (hs : ∀ (k : Nat) (p : Stp), st[k]? = some p → p.nodes ≠ []) : st.length ≤ S.length := by
  unfold Cnt at h
  have h1 : (st.map fun p => p.nodes.length).length ≤ (st.map fun p => p.nodes.length).sum := sum_len (fun x hx => by
    obtain ⟨p, hp, rfl⟩ := List.mem_map.1 hx
    obtain ⟨k, hk⟩ := List.getElem?_of_mem hp
    have := hs k p hk
    have := List.length_pos_iff.2 this
    omega)
  rw [List.length_map, h] at h1
  exact Nat.le_trans h1 List.count_le_length
theorem Cnt.nodes {S : List Bool} {st : List Stp} (h : Cnt S st) {k : Nat} {p : Stp} (hp : st[k]? = some p) : p.nodes.length ≤ S.length := by
  unfold Cnt at h
  have h1 := sum_mem (List.mem_map.2 ⟨p, List.mem_of_getElem? hp, rfl⟩ : p.nodes.length ∈ st.map fun p => p.nodes.length)
  rw [h] at h1
  exact Nat.le_trans h1 List.count_le_length
/-- What the nodes of a step lead to. -/
def reach (d : Nat → Nat → List Nat) (l : Nat) (ns : List Nat) : List Nat := (ns.map fun n => d n l).flatten
theorem mem_reach {d : Nat → Nat → List Nat} {l : Nat} {ns : List Nat} {x : Nat} : x ∈ reach d l ns ↔ ∃ n ∈ ns, x ∈ d n l := by
  unfold reach
  rw [List.mem_flatten]
  exact ⟨fun ⟨ys, h1, h2⟩ => by obtain ⟨n, hn, rfl⟩ := List.mem_map.1 h1; exact ⟨n, hn, h2⟩, fun ⟨n, hn, h2⟩ => ⟨_, List.mem_map.2 ⟨n, hn, rfl⟩, h2⟩⟩
theorem reach_snoc (d : Nat → Nat → List Nat) (l : Nat) (ns : List Nat) (n : Nat) : reach d l (ns ++ [n]) = reach d l ns ++ d n l := by simp [reach]
theorem reach_take {d : Nat → Nat → List Nat} {l k n : Nat} {ns : List Nat} (h : ns[k]? = some n) : reach d l (ns.take (k + 1)) = reach d l (ns.take k) ++ d n l := by
  rw [List.take_add_one, h]
  exact reach_snoc _ _ _ _
theorem reach_len {d : Nat → Nat → List Nat} {l D : Nat} {ns : List Nat} (h : ∀ n ∈ ns, (d n l).length ≤ D) : (reach d l ns).length ≤ ns.length * D := by
  induction ns with
  | nil => simp [reach]
  | cons n r ih =>
    have h1 := ih (fun x hx => h x (by simp [hx]))
    have h2 := h n (by simp)
    simp only [reach, List.map_cons, List.flatten_cons, List.length_append, List.length_cons, Nat.add_mul, Nat.one_mul] at h1 ⊢
    omega
/-- What a search answers. -/
def Found (d : Nat → Nat → List Nat) (start : List Nat) (goal : Nat → Bool) (L : List Nat) (v : List Nat) : Prop :=
  (∀ l ∈ v, l ∈ L) ∧ (∃ x, Goes d start v x ∧ goal x = true) ∧ ∀ u, (∀ l ∈ u, l ∈ L) → wval u < wval v → ∀ x, Goes d start u x → goal x = false
def Lost (d : Nat → Nat → List Nat) (start : List Nat) (goal : Nat → Bool) (L : List Nat) : Prop := ∀ v, (∀ l ∈ v, l ∈ L) → ∀ x, Goes d start v x → goal x = false
end Go.Proofs.Ytcmgkekaeafgaaa

namespace Go.Proofs.Ytcmgkekaeafgaaa
open Go Go.RowKit
set_option maxHeartbeats 2000000

/-- A slice of numbers below some block's type: it lies in a block of numbers. -/
def IntsAt (w : World) (A : Option Addr) (m : Nat) (l : List Nat) : Prop :=
  m = l.length ∧ m ≤ 9223372036854775807 ∧ (0 < m → ∃ (g o : Nat) (cs : Array Value), A = some ⟨g, o, none⟩ ∧ w.heap[g]? = some (.cells cs 3 (0, 0)) ∧ ∀ j x, l[j]? = some x → w.cell? ⟨g, o + j, none⟩ = some (.int .i64 (x : Nat)))
theorem IntsAt.frm {S : Nat → Prop} {w w' : World} {A : Option Addr} {m : Nat} {l : List Nat} (h : IntsAt w A m l) (hb : Frm S w w') (hS : ∀ k, S k → ∀ cs, w.heap[k]? ≠ some (.cells cs 3 (0, 0))) : IntsAt w' A m l := by
  refine ⟨h.1, h.2.1, fun h0 => ?_⟩
  obtain ⟨g, o, cs, e, hh, hc⟩ := h.2.2 h0
  have hlt := (Array.getElem?_eq_some_iff.1 hh).1
  have hn : ¬ S g := fun hs => hS g hs cs hh
  exact ⟨g, o, cs, e, (hb.block g hlt hn).trans hh, fun j x hx => (World.cell?_of_block (w := w) (hb.block g hlt hn)).trans (hc j x hx)⟩
theorem IntsAt.ext {w w' : World} {A : Option Addr} {m : Nat} {l : List Nat} (h : IntsAt w A m l) (hb : Ext w w') : IntsAt w' A m l := h.frm (S := fun _ => False) hb (fun _ hk => hk.elim)
theorem IntsAt.at_ {w : World} {A : Option Addr} {m k : Nat} {l : List Nat} (h : IntsAt w A m l) (hk : k < m) : ∃ (g o x : Nat), A = some ⟨g, o, none⟩ ∧ Hid (l[k]? = some x) ∧ w.cell? ⟨g, o + k, none⟩ = some (.int .i64 (x : Nat)) := by
  obtain ⟨g, o, cs, e, _, hc⟩ := h.2.2 (by omega)
  have hx : l[k]? = some (l[k]'(by have := h.1; omega)) := List.getElem?_eq_getElem _
  exact ⟨g, o, _, e, hx, hc k _ hx⟩
theorem IntsAt.own {w : World} {base n c : Nat} {A : Option Addr} {l : List Nat} (h : w.ownsRow base 3 1 (.slice A n c) n (nats l)) : IntsAt w A n l := by
  have hl := h.1
  rw [nats_length] at hl
  refine ⟨by omega, (Reads.of_own h).len, fun h0 => ?_⟩
  rcases h.2 with ⟨_, h1⟩ | ⟨g, cap, cur, hv, _, hh, _⟩
  · omega
  · have hA : A = some ⟨g, 0, none⟩ := by injection hv
    subst hA
    refine ⟨g, 0, cur, rfl, hh, fun j x hx => ?_⟩
    have hj := (List.getElem?_eq_some_iff.1 hx).1
    rw [Nat.zero_add, h.cellAt j (by omega)]
    simp [nats, hx]
/-- The cells of steps, each with the slice that holds its nodes. -/
def stCells : List (Stp × Value) → List Value
  | [] => []
  | (p, v) :: r => .int .i64 p.parent :: .int .i64 (p.letter : Nat) :: v :: stCells r
theorem stCells_length (l : List (Stp × Value)) : (stCells l).length = l.length * 3 := by
  induction l with
  | nil => rfl
  | cons x r ih => obtain ⟨p, v⟩ := x; simp only [stCells, List.length_cons, ih]; omega
theorem stCells_append (l m : List (Stp × Value)) : stCells (l ++ m) = stCells l ++ stCells m := by
  induction l with
  | nil => rfl
  | cons x r ih => obtain ⟨p, v⟩ := x; simp [stCells, ih]
theorem stCells_get {l : List (Stp × Value)} {k : Nat} {p : Stp} {v : Value} (h : l[k]? = some (p, v)) : (stCells l)[k * 3]? = some (.int .i64 p.parent) ∧ (stCells l)[k * 3 + 1]? = some (.int .i64 (p.letter : Nat)) ∧ (stCells l)[k * 3 + 2]? = some v := by
  induction l generalizing k with
  | nil => simp at h
  | cons a r ih =>
    cases k with
    | zero => simp at h; subst h; exact ⟨rfl, rfl, rfl⟩
    | succ k =>
      obtain ⟨p', v'⟩ := a
      have := ih (k := k) (by simpa using h)
      have e1 : (k + 1) * 3 = k * 3 + 1 + 1 + 1 := by omega
      refine ⟨?_, ?_, ?_⟩ <;> rw [e1] <;> simp only [stCells, List.getElem?_cons_succ]
      · exact this.1
      · exact this.2.1
      · exact this.2.2
/-- The nodes of each step lie in a block of numbers. -/
def Nodes (w : World) (sts : List (Stp × Value)) : Prop := ∀ (k : Nat) (p : Stp) (v : Value), sts[k]? = some (p, v) → ∃ A c, v = .slice A p.nodes.length c ∧ IntsAt w A p.nodes.length p.nodes
theorem Nodes.frm {S : Nat → Prop} {w w' : World} {sts : List (Stp × Value)} (h : Nodes w sts) (hb : Frm S w w') (hS : ∀ k, S k → ∀ cs, w.heap[k]? ≠ some (.cells cs 3 (0, 0))) : Nodes w' sts := fun k p v hk => by
  obtain ⟨A, c, e, hx⟩ := h k p v hk
  exact ⟨A, c, e, hx.frm hb hS⟩
section
variable {w0 w w' : World} {bs bg bt gs N cs : Nat} {fg vst : Value} {S : List Bool} {sts : List (Stp × Value)}
end
end Go.Proofs.Ytcmgkekaeafgaaa

namespace Go.Proofs.Ytcmgkekaeafgaaa
open Go Go.RowKit
set_option maxHeartbeats 2000000

theorem vis_take {S : List Bool} {ns : List Nat} {k n : Nat} (h : ns[k]? = some n) : vis S (ns.take (k + 1)) = visN (vis S (ns.take k)) n := by
  rw [List.take_add_one, h]
  exact vis_snoc _ _ _
theorem Frm.grown_ {T : Nat → Prop} {w W W' : World} {row : Option Nat} (h : Frm T w W) (hg : W.grownBy W' row) (hr : ∀ k, row = some k → w.heap.size ≤ k) : Frm T w W' :=
  ⟨hg.os.trans h.os, hg.tape.trans h.tape, hg.output.trans h.output, Nat.le_trans h.size hg.size, fun k hk hn => (hg.block k (Nat.lt_of_lt_of_le hk h.size) (fun e => by have := hr k e.symm; omega)).trans (h.block k hk hn)⟩
theorem any_snoc {l : List Nat} {n : Nat} {p : Nat → Bool} : (l ++ [n]).any p = (l.any p || p n) := by simp
end Go.Proofs.Ytcmgkekaeafgaaa

namespace Go.Proofs.Ytcmgkekaeafgaaa
open Go Go.RowKit Go.Lib Go.Sort
set_option maxHeartbeats 2000000

abbrev enc8 (n : Int) : Value := .int .u8 n
end Go.Proofs.Ytcmgkekaeafgaaa

namespace Go.Proofs.Ytcmgkekaeafgaaa
open Go Go.RowKit
set_option maxHeartbeats 2000000

theorem info_u8 : (Try.prog.info? 5).map (fun i => (i.zero, i.size, i.bytes)) = some (some (.int .u8 0), 1, 1) := by kernel_rfl
/-- The bytes of letters. -/
def lbs (o : List Nat) : List Int := o.map fun l => ((97 + l : Nat) : Int)
theorem lbs_append (o p : List Nat) : lbs (o ++ p) = lbs o ++ lbs p := by simp [lbs]
theorem lbs_reverse (o : List Nat) : lbs o.reverse = (lbs o).reverse := by simp [lbs]
theorem lbs_length (o : List Nat) : (lbs o).length = o.length := by simp [lbs]
def u8s (l : List Int) : List Value := l.map enc8
theorem Holds.own8 {w : World} {base g n cap : Nat} {e : TypeId} {l : List Int} (h : w.ownsRow base e 1 (.slice (some ⟨g, 0, none⟩) n cap) n (u8s l)) : Sort.Holds enc8 w g 0 l.toArray := by
  intro j hj
  have hj' : j < l.length := by simpa using hj
  have hn := h.1
  simp only [u8s, List.length_map] at hn
  refine ⟨?_, by rw [Nat.zero_add]; exact h.frozenAt j⟩
  rw [Nat.zero_add, h.cellAt j (by omega)]
  simp [u8s, hj']
theorem Ext.putRow {w W : World} {g off n : Nat} {d : Array Int} (h : Ext w W) (hg : w.heap.size ≤ g) : Ext w (Sort.putRow enc8 (Sort.ahead W n) g off d) := by
  refine ⟨h.os, h.tape, h.output, ?_, fun k hk _ => ?_⟩
  · show w.heap.size ≤ (W.heap.modify g _).size
    rw [Array.size_modify]; exact h.size
  · show (W.heap.modify g _)[k]? = _
    rw [Array.getElem?_modify, if_neg (by omega)]
    exact h.heap hk

theorem u8_row : Try.prog.underlying 22 = some (.slice 5) := by kernel_rfl
theorem u8_und : Try.prog.underlying 5 = some (.int .u8) := by kernel_rfl
theorem str_und : Try.prog.underlying 9 = some .string := by kernel_rfl
theorem Ext.put_some {w W w' : World} {g off : Nat} {d : Array Int} (h : Ext w W) (hg : w.heap.size ≤ g) (hw : ∃ n, w' = Sort.putRow enc8 (Sort.ahead W n) g off d) : Ext w w' := by
  obtain ⟨n, rfl⟩ := hw
  exact h.putRow hg
theorem conv_rev {W w' : World} {g cap : Nat} {o : List Nat} (h : Sort.Holds enc8 W g 0 (lbs o).toArray) (hw : ∃ n, w' = Sort.putRow enc8 (Sort.ahead W n) g 0 (lbs o).toArray.reverse) :
    (convert 22 9 (.slice (some ⟨g, 0, none⟩) o.length cap)).run Try.prog w' = .ok (.string (strOfNums (lbs o.reverse))) w' := by
  obtain ⟨n, rfl⟩ := hw
  have hH := Sort.holds_putRow enc8 _ g 0 _ (lbs o).toArray.reverse (Sort.holds_ahead enc8 W n g 0 _ h) (by simp)
  refine run_convert_bytes_arg (P := Try.prog) _ 22 5 u8_row u8_und g 0 o.length cap (lbs o.reverse) (by simp [lbs]) (fun i hi => ?_) _ str_und
  rw [(hH i (by simpa [lbs] using hi)).1, lbs_reverse]
  have hi2 : i < (lbs o).reverse.length := by simpa [lbs] using hi
  have hi3 : i < (lbs o).toArray.reverse.size := by simpa [lbs] using hi
  rw [getElem!_pos (lbs o).toArray.reverse i hi3]
  simp [enc8, List.getD, List.getElem?_eq_getElem hi2, -List.getElem?_reverse, -List.getElem_reverse]

end Go.Proofs.Ytcmgkekaeafgaaa

namespace Go.Proofs.Ytcmgkekaeafgaaa
open Go Go.RowKit
set_option maxHeartbeats 2000000

/-- What firstPath answers. -/
def RetPath (w : World) (d : Nat → Nat → List Nat) (start : List Nat) (goal : Nat → Bool) (L : List Nat) (e : Ending) (w' : World) : Prop :=
  Ext w w' ∧ ((∃ v, e = .returned (.tuple #[.string (strOfNums (lbs v)), .bool true]) ∧ Found d start goal L v) ∨ (e = .returned (.tuple #[.string ByteArray.empty, .bool false]) ∧ Lost d start goal L))

theorem sts_add {sts sts' : List (Stp × Value)} {a : Int} {l : Nat} {fr : List Nat} (h : (fr = [] ∧ sts' = sts) ∨ (fr ≠ [] ∧ ∃ v, sts' = sts ++ [(⟨a, l, fr⟩, v)])) : sts'.map Prod.fst = addS (sts.map Prod.fst) a l fr := by
  rcases h with ⟨h1, rfl⟩ | ⟨h1, v, rfl⟩
  · rw [addS, if_pos h1]
  · rw [addS, if_neg h1]; simp

/-- The letters of the words are letters. -/
theorem Bfs.letters {d : Nat → Nat → List Nat} {start : List Nat} {goal : Nat → Bool} {L : List Nat} {N : Nat} {S : List Bool} {st : List Stp} {ws : List (List Nat)} {i j : Nat} (h : Bfs d start goal L N S st ws i j) : ∀ (m k : Nat), k ≤ m → k < st.length → ∀ l ∈ ws.getD k [], l ∈ L := by
  intro m
  induction m with
  | zero =>
    intro k hk hlt l hl
    obtain rfl : k = 0 := by omega
    rw [h.zero _ (List.getElem?_eq_getElem hlt)] at hl
    cases hl
  | succ m ih =>
    intro k hk hlt l hl
    rcases h.word k _ (List.getElem?_eq_getElem hlt) with ⟨_, _, e⟩ | ⟨a, b, _, hak, _, hb, e⟩
    · rw [e] at hl; cases hl
    · rw [e] at hl
      rcases List.mem_append.1 hl with h1 | h1
      · exact ih a (by omega) (by omega) l h1
      · rw [List.mem_singleton.1 h1]; exact List.mem_of_getElem? hb
/-- The steps' words, with one step more. -/
theorem Bfs.words {d : Nat → Nat → List Nat} {start : List Nat} {goal : Nat → Bool} {L : List Nat} {N : Nat} {S : List Bool} {st : List Stp} {ws : List (List Nat)} {i j : Nat} (h : Bfs d start goal L N S st ws i j) (hL : Rise L) {a l : Nat} {fr : List Nat} (ha : a < st.length) (hl : l ∈ L) (k : Nat) (p : Stp) (hp : (st ++ [⟨a, l, fr⟩])[k]? = some p) :
    (p.parent = -1 ∧ (ws ++ [ws.getD a [] ++ [l]]).getD k [] = []) ∨ ∃ b : Nat, p.parent = (b : Int) ∧ b < k ∧ p.letter < 6 ∧ (ws ++ [ws.getD a [] ++ [l]]).getD k [] = (ws ++ [ws.getD a [] ++ [l]]).getD b [] ++ [p.letter] := by
  rcases Nat.lt_trichotomy k st.length with h1 | h1 | h1
  · rw [List.getElem?_append_left h1] at hp
    rw [getD_left _ (by rw [h.wl]; exact h1)]
    rcases h.word k p hp with ⟨_, h2, h3⟩ | ⟨b, c, h2, h3, _, h4, h5⟩
    · exact Or.inl ⟨h2, h3⟩
    · exact Or.inr ⟨b, h2, h3, hL.1 _ (List.mem_of_getElem? h4), by rw [getD_left _ (by rw [h.wl]; omega)]; exact h5⟩
  · rw [h1, List.getElem?_append_right (Nat.le_refl _), Nat.sub_self] at hp
    obtain rfl := Option.some.inj hp
    refine Or.inr ⟨a, rfl, by omega, hL.1 _ hl, ?_⟩
    rw [h1, ← h.wl, getD_last, getD_left _ (by rw [h.wl]; exact ha)]
  · rw [List.getElem?_eq_none (by simp; omega)] at hp
    cases hp
theorem Frm.out {T S : Nat → Prop} {a b c : World} (h : Frm T a b) (k : Frm S b c) (hS : ∀ x, S x → T x) : Frm T a c := h.trans (k.mono fun x _ hx => hS x hx)

end Go.Proofs.Ytcmgkekaeafgaaa
