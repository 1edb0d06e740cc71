/- As XSeqT: a region that draws its order, walked; up to three operations may come up at once; closures are made without memory. It holds of every program, without conditions. -/
import Derived.Test.YtekobefenngedaaSeqT
namespace Go.Proofs.Ytekobefenngedaa
open Go Go.RowKit

/-- Operations whose value hangs on no memory. -/
def pureOpU : Op → Bool
  | .makeFunc _ _ _ | .move _ | .assign _ | .pick _ _ _ | .binOp _ _ _ _ _ | .unOp _ _ _ | .fieldAddr _ _ _ | .field _ _ _ | .extract _ _ | .build _ _ => true
  | _ => false

/-- Operations that make no memory. -/
def quietOpU : Op → Bool
  | .makeFunc _ _ _ => true
  | o => quietOp o
/-- An order of a region's operations; where two or three may come up, all. -/
inductive OrdU where
  | nil : OrdU
  | one : Nat → OrdU → OrdU
  | two : Nat → OrdU → Nat → OrdU → OrdU
  | three : Nat → OrdU → Nat → OrdU → Nat → OrdU → OrdU
/-- One order. -/
def OrdU.of : List Nat → OrdU
  | [] => .nil
  | i :: r => .one i (OrdU.of r)
/-- Ahead of another order. -/
def OrdU.app : List Nat → OrdU → OrdU
  | [], o => o
  | i :: r, o => .one i (OrdU.app r o)
/-- The order serves: as okOrd, with the operations of the tail T, each behind all that reads memory. -/
def okOrdU (l : List Oper) (T : List Nat) : OrdU → Array Bool → Bool
  | .nil, listed => (Region.ready .any l.toArray listed).isEmpty
  | .one i rest, listed =>
    (match l[i]? with
      | some o => if quietOpU o.op then Region.free .any l.toArray listed i && (Region.ready .any l.toArray listed).contains i && !T.contains i && (pureOpU o.op || T.all fun t => below l l.length t i)
        else Region.ready .any l.toArray listed == [i]
      | none => false) && okOrdU l T rest (listed.setIfInBounds i true)
  | .two i r j r', listed => (i < l.length && j < l.length && Region.ready .any l.toArray listed == [i, j]) && (okOrdU l T r (listed.setIfInBounds i true) && okOrdU l T r' (listed.setIfInBounds j true))
  | .three i r j r' k r'', listed => (i < l.length && j < l.length && k < l.length && Region.ready .any l.toArray listed == [i, j, k]) && (okOrdU l T r (listed.setIfInBounds i true) && okOrdU l T r' (listed.setIfInBounds j true) && okOrdU l T r'' (listed.setIfInBounds k true))

def wpSeqU (P : Program) (l : List Oper) (T : List Nat) (Q : Exit → Act → World → Prop) (S : World → Prop) : OrdU → Act → World → Prop
  | .nil, a, w => Q .normal a w
  | .one i rest, a, w => match l[i]? with
    | some o => if quietOpU o.op then ∃ v, YieldsIf P l.toArray (if pureOpU o.op then fun _ => True else S) o v a ∧ wpSeqU P l T Q S rest (a.put o.dst v) w
      else wpOp P l.toArray Q i (fun a' w' => (T.contains i = false → S w') ∧ wpSeqU P l T Q S rest a' w') a w
    | none => False
  | .two i r j r', a, w => wpOp P l.toArray Q i (fun a' w' => (T.contains i = false → S w') ∧ wpSeqU P l T Q S r a' w') a w ∧ wpOp P l.toArray Q j (fun a' w' => (T.contains j = false → S w') ∧ wpSeqU P l T Q S r' a' w') a w
  | .three i r j r' k r'', a, w => wpOp P l.toArray Q i (fun a' w' => (T.contains i = false → S w') ∧ wpSeqU P l T Q S r a' w') a w ∧ wpOp P l.toArray Q j (fun a' w' => (T.contains j = false → S w') ∧ wpSeqU P l T Q S r' a' w') a w ∧ wpOp P l.toArray Q k (fun a' w' => (T.contains k = false → S w') ∧ wpSeqU P l T Q S r'' a' w') a w
/-- How many operations an order has. -/
def OrdU.len : OrdU → Nat
  | .nil => 0
  | .one _ r => r.len + 1
  | .two _ r _ _ => r.len + 1
  | .three _ r _ _ _ _ => r.len + 1
/-- Both ways are of one length. -/
def OrdU.even : OrdU → Bool
  | .nil => true
  | .one _ r => r.even
  | .two _ r _ r' => r.len == r'.len && (r.even && r'.even)
  | .three _ r _ r' _ r'' => (r.len == r'.len && r.len == r''.len) && (r.even && r'.even && r''.even)

section
variable {P : Program} {l : List Oper} {Q : Exit → Act → World → Prop} {S : World → Prop} {T : List Nat}

theorem seqU_sound (hs : Region.noSelect l.toArray = true) (hQ : ∀ (c : List PanicEntry) (a : Act) (d : Tmp) (v : Value) (w : World), Q (.panic c) (a.put (some d) v) w → Q (.panic c) a w) :
    ∀ (ord : OrdU) (listed : Array Bool) (a : Act) (w : World), listed.size = l.length → Clo l listed → ord.even = true → okOrdU l T ord listed = true → (tailed T listed ∨ S w) → wpSeqU P l T Q S ord a w →
      wpAnyL P .any l.toArray Q (fun listed w => tailed T listed ∨ S w) ord.len listed a w
  | .nil, listed, a, w, _, _, _, hok, _, h => by
    simp only [okOrdU, List.isEmpty_iff] at hok
    exact ⟨hok, h⟩
  | .one i rest, listed, a, w, hsz, hc, hev, hok, hS, h => by
    cases ho : l[i]? with
    | none => simp [okOrdU, ho] at hok
    | some o =>
      have hil : i < l.length := (List.getElem?_eq_some_iff.1 ho).1
      simp only [okOrdU, ho, Bool.and_eq_true] at hok
      simp only [wpSeqU, ho] at h
      by_cases hq : quietOpU o.op = true
      · rw [if_pos hq] at hok h
        simp only [Bool.and_eq_true] at hok
        obtain ⟨⟨⟨⟨hf, hrd⟩, hnT⟩, hpure⟩, hrest⟩ := hok
        obtain ⟨v, hy, hr⟩ := h
        have hmem : i ∈ Region.ready .any l.toArray listed := by simpa using hrd
        have hnT' : i ∉ T := by simpa using hnT
        have hset : ∀ listed : Array Bool, tailed T (listed.setIfInBounds i true) ↔ tailed T listed := fun listed => by
          constructor
          · rintro ⟨t, ht, hl⟩
            refine ⟨t, ht, ?_⟩
            rwa [getD_set_ne false (by rintro rfl; exact hnT' ht)] at hl
          · rintro ⟨t, ht, hl⟩
            exact ⟨t, ht, getD_set_true hl⟩
        refine wpAnyL_first (G := fun listed => Clo l listed ∧ listed.size = l.length) (by simpa using ho) (Region.noSelect_spec hs)
          (fun c a w h => by cases hd : o.dst with | none => rw [hd] at h; exact h | some d => rw [hd] at h; exact hQ c a d v w h)
          (fun li j hj hg => ⟨clo_step hj hg.1, by simpa using hg.2⟩) ?_ (fun li w h => h.imp (fun x => (hset li).2 x) id) (fun li w _ h => h.imp (fun x => (hset li).1 x) id)
          rest.len listed a w ⟨hc, hsz⟩ (Region.free_spec (by simpa using ho) hf) hmem hy hS ?_
        · intro li w' hg hun h
          by_cases hp : pureOpU o.op = true
          · rw [if_pos hp]; trivial
          · rw [if_neg hp]
            rcases h with ⟨t, ht, hl⟩ | h
            · exfalso
              simp only [hp, Bool.false_or] at hpure
              have hb := List.all_eq_true.1 hpure t ht
              have h1 := below_spec hg.1 _ _ _ hb hl
              have h2 : i < li.size := by rw [hg.2]; exact hil
              simp [h2] at hun h1
              rw [h1] at hun; cases hun
            · exact h
        · exact seqU_sound hs hQ rest _ _ _ (by simpa using hsz) (clo_step hmem hc) hev hrest (hS.imp (fun x => (hset _).2 x) id) hr
      · rw [if_neg hq] at hok h
        have hready : Region.ready .any l.toArray listed = [i] := by simpa using hok.1
        have hmem : i ∈ Region.ready .any l.toArray listed := by rw [hready]; simp
        refine ⟨fun h0 => (by rw [h0] at hready; cases hready), fun j hj => ?_⟩
        rw [hready] at hj
        rw [List.mem_singleton.1 hj]
        refine wpOp_mono (fun a' w' h => ?_) h
        have hS' : tailed T (listed.setIfInBounds i true) ∨ S w' := by
          cases hT : T.contains i
          · exact Or.inr (h.1 hT)
          · refine Or.inl ⟨i, by simpa using hT, ?_⟩
            have : i < listed.size := by omega
            simp [this]
        exact ⟨hS', seqU_sound hs hQ rest _ _ _ (by simpa using hsz) (clo_step hmem hc) hev hok.2 hS' h.2⟩
  | .two i r j r', listed, a, w, hsz, hc, hev, hok, hS, h => by
    simp only [OrdU.even, Bool.and_eq_true, beq_iff_eq] at hev
    simp only [okOrdU, Bool.and_eq_true, decide_eq_true_eq, beq_iff_eq] at hok
    simp only [wpSeqU] at h
    obtain ⟨⟨⟨hi, hj⟩, hready⟩, hok1, hok2⟩ := hok
    have hlen : (OrdU.two i r j r').len = r.len + 1 := rfl
    rw [hlen]
    have hm : ∀ k, k ∈ Region.ready .any l.toArray listed ↔ k = i ∨ k = j := fun k => by rw [hready]; simp
    have hS' : ∀ k w', k < l.length → (T.contains k = false → S w') → tailed T (listed.setIfInBounds k true) ∨ S w' := fun k w' hk hx => by
      cases hT : T.contains k
      · exact Or.inr (hx hT)
      · refine Or.inl ⟨k, by simpa using hT, ?_⟩
        have : k < listed.size := by omega
        simp [this]
    refine ⟨fun h0 => (by rw [h0] at hready; cases hready), fun k hk => ?_⟩
    rcases (hm k).1 hk with hk' | hk'
    · rw [hk'] at hk ⊢
      refine wpOp_mono (fun a' w' h => ?_) h.1
      exact ⟨hS' _ _ hi h.1, seqU_sound hs hQ r _ _ _ (by simpa using hsz) (clo_step hk hc) hev.2.1 hok1 (hS' _ _ hi h.1) h.2⟩
    · rw [hk'] at hk ⊢
      refine wpOp_mono (fun a' w' h => ?_) h.2
      have := seqU_sound hs hQ r' _ _ _ (by simpa using hsz) (clo_step hk hc) hev.2.2 hok2 (hS' _ _ hj h.1) h.2
      rw [← hev.1] at this
      exact ⟨hS' _ _ hj h.1, this⟩
  | .three i r j r' k r'', listed, a, w, hsz, hc, hev, hok, hS, h => by
    simp only [OrdU.even, Bool.and_eq_true, beq_iff_eq] at hev
    simp only [okOrdU, Bool.and_eq_true, decide_eq_true_eq, beq_iff_eq] at hok
    simp only [wpSeqU] at h
    obtain ⟨⟨⟨⟨hi, hj⟩, hk⟩, hready⟩, ⟨hok1, hok2⟩, hok3⟩ := hok
    obtain ⟨⟨e1, e2⟩, ⟨v1, v2⟩, v3⟩ := hev
    have hlen : (OrdU.three i r j r' k r'').len = r.len + 1 := rfl
    rw [hlen]
    have hm : ∀ x, x ∈ Region.ready .any l.toArray listed ↔ x = i ∨ x = j ∨ x = k := fun x => by rw [hready]; simp
    have hS' : ∀ k w', k < l.length → (T.contains k = false → S w') → tailed T (listed.setIfInBounds k true) ∨ S w' := fun k w' hk hx => by
      cases hT : T.contains k
      · exact Or.inr (hx hT)
      · refine Or.inl ⟨k, by simpa using hT, ?_⟩
        have : k < listed.size := by omega
        simp [this]
    refine ⟨fun h0 => (by rw [h0] at hready; cases hready), fun x hx => ?_⟩
    rcases (hm x).1 hx with hx' | hx' | hx'
    · rw [hx'] at hx ⊢
      refine wpOp_mono (fun a' w' h => ?_) h.1
      exact ⟨hS' _ _ hi h.1, seqU_sound hs hQ r _ _ _ (by simpa using hsz) (clo_step hx hc) v1 hok1 (hS' _ _ hi h.1) h.2⟩
    · rw [hx'] at hx ⊢
      refine wpOp_mono (fun a' w' h => ?_) h.2.1
      have := seqU_sound hs hQ r' _ _ _ (by simpa using hsz) (clo_step hx hc) v2 hok2 (hS' _ _ hj h.1) h.2
      rw [← e1] at this
      exact ⟨hS' _ _ hj h.1, this⟩
    · rw [hx'] at hx ⊢
      refine wpOp_mono (fun a' w' h => ?_) h.2.2
      have := seqU_sound hs hQ r'' _ _ _ (by simpa using hsz) (clo_step hx hc) v3 hok3 (hS' _ _ hk h.1) h.2
      rw [← e2] at this
      exact ⟨hS' _ _ hk h.1, this⟩

/-- The region, walked in one order: what reads under S first, then the tail. -/
theorem wp_region_tailU {id : Nat} {a : Act} {w : World} (S : World → Prop) (T : List Nat) (ord : OrdU) (hm : P.follows .mixedOrders = true) (hlen : ord.len = l.length) (hev : ord.even = true) (hs : Region.noSelect l.toArray = true) (hok : okOrdU l T ord (Array.replicate l.length false) = true)
    (hQ : ∀ (c : List PanicEntry) (a : Act) (d : Tmp) (v : Value) (w : World), Q (.panic c) (a.put (some d) v) w → Q (.panic c) a w) (hS : S w.drew) (h : wpSeqU P l T Q S ord a w.drew) : (Code.region id l.toArray true).wp P Q a w := by
  refine wp_region_any hm ?_
  have := wpAny_of_L _ _ _ _ (seqU_sound hs hQ ord _ a w.drew (by simp) (clo_start l) hev hok (Or.inr hS) h)
  rw [hlen] at this
  simpa using this

theorem useq_nil {a : Act} {w : World} (h : Q .normal a w) : wpSeqU P l T Q S .nil a w := h
/-- A step that needs no memory. -/
theorem useq_pure {i : Nat} {rest : OrdU} {o : Oper} {v : Value} {a : Act} {w : World} (ho : l[i]? = some o) (hq : quietOpU o.op = true) (_hp : pureOpU o.op = true) (hw : Region.wanted o (yielded l.toArray a.tmps) = true)
    (hy : ∀ W, (execOp a.eval o).run P W = .ok (.value v) W) (h : wpSeqU P l T Q S rest (a.put o.dst v) w) : wpSeqU P l T Q S (.one i rest) a w := by
  simp only [wpSeqU, ho, hq, if_true]
  exact ⟨v, .inl ⟨hw, fun W _ => hy W⟩, h⟩
/-- A step that reads. -/
theorem useq_read {i : Nat} {rest : OrdU} {o : Oper} {v : Value} {a : Act} {w : World} (ho : l[i]? = some o) (hq : quietOpU o.op = true) (hp : pureOpU o.op = false) (hw : Region.wanted o (yielded l.toArray a.tmps) = true)
    (hy : ∀ W, S W → (execOp a.eval o).run P W = .ok (.value v) W) (h : wpSeqU P l T Q S rest (a.put o.dst v) w) : wpSeqU P l T Q S (.one i rest) a w := by
  simp only [wpSeqU, ho, hq, hp, if_true]
  exact ⟨v, .inl ⟨hw, hy⟩, h⟩
/-- A step whose guard is off. -/
theorem useq_skip {i : Nat} {rest : OrdU} {o : Oper} {a : Act} {w : World} (ho : l[i]? = some o) (hw : Region.wanted o (yielded l.toArray a.tmps) = false)
    (hS : S w) (h : wpSeqU P l T Q S rest (a.put o.dst undef) w) : wpSeqU P l T Q S (.one i rest) a w := by
  simp only [wpSeqU, ho]
  split
  · exact ⟨undef, .inr ⟨hw, rfl⟩, h⟩
  · unfold wpOp
    simp only [List.getElem?_toArray, ho, hw, Bool.false_eq_true, if_false]
    exact ⟨fun _ => hS, h⟩
/-- A step that makes memory, or calls, ahead of the tail. -/
theorem useq_step {i : Nat} {rest : OrdU} {o : Oper} {a : Act} {w : World} (ho : l[i]? = some o) (hq : quietOpU o.op = false) (hw : Region.wanted o (yielded l.toArray a.tmps) = true)
    (h : ∀ K : Act → World → Prop, Shut (∀ a w, S w → wpSeqU P l T Q S rest a w → K a w) → o.wp P a w K Q) : wpSeqU P l T Q S (.one i rest) a w := by
  simp only [wpSeqU, ho, hq]
  unfold wpOp
  simp only [List.getElem?_toArray, ho, hw, if_true]
  exact .inl (h _ fun a w hS hW => ⟨fun _ => hS, hW⟩)
/-- A step of the tail. -/
theorem useq_last {i : Nat} {rest : OrdU} {o : Oper} {a : Act} {w : World} (ho : l[i]? = some o) (hq : quietOpU o.op = false) (hT : T.contains i = true) (hw : Region.wanted o (yielded l.toArray a.tmps) = true)
    (h : ∀ K : Act → World → Prop, Shut (∀ a w, wpSeqU P l T Q S rest a w → K a w) → o.wp P a w K Q) : wpSeqU P l T Q S (.one i rest) a w := by
  simp only [wpSeqU, ho, hq]
  unfold wpOp
  simp only [List.getElem?_toArray, ho, hw, if_true]
  exact .inl (h _ fun a w hW => ⟨fun hn => absurd (hn.symm.trans hT) (by decide), hW⟩)
end

section
variable {P : Program} {l : List Oper} {Q : Exit → Act → World → Prop} {S : World → Prop} {T : List Nat}
/-- Two that may come up, neither of the tail. -/
theorem useq_both {i j : Nat} {r r' : OrdU} {o o' : Oper} {a : Act} {w : World} (ho : l[i]? = some o) (ho' : l[j]? = some o') (hw : Region.wanted o (yielded l.toArray a.tmps) = true) (hw' : Region.wanted o' (yielded l.toArray a.tmps) = true)
    (h1 : ∀ K : Act → World → Prop, Shut (∀ a w, S w → wpSeqU P l T Q S r a w → K a w) → o.wp P a w K Q) (h2 : ∀ K : Act → World → Prop, Shut (∀ a w, S w → wpSeqU P l T Q S r' a w → K a w) → o'.wp P a w K Q) : wpSeqU P l T Q S (.two i r j r') a w := by
  constructor
  · unfold wpOp
    simp only [List.getElem?_toArray, ho, hw, if_true]
    exact .inl (h1 _ fun a w hS hW => ⟨fun _ => hS, hW⟩)
  · unfold wpOp
    simp only [List.getElem?_toArray, ho', hw', if_true]
    exact .inl (h2 _ fun a w hS hW => ⟨fun _ => hS, hW⟩)
/-- Three that may come up, none of the tail. -/
theorem useq_three {i j k : Nat} {r r' r'' : OrdU} {o o' o'' : Oper} {a : Act} {w : World} (ho : l[i]? = some o) (ho' : l[j]? = some o') (ho'' : l[k]? = some o'') (hw : Region.wanted o (yielded l.toArray a.tmps) = true) (hw' : Region.wanted o' (yielded l.toArray a.tmps) = true) (hw'' : Region.wanted o'' (yielded l.toArray a.tmps) = true)
    (h1 : ∀ K : Act → World → Prop, Shut (∀ a w, S w → wpSeqU P l T Q S r a w → K a w) → o.wp P a w K Q) (h2 : ∀ K : Act → World → Prop, Shut (∀ a w, S w → wpSeqU P l T Q S r' a w → K a w) → o'.wp P a w K Q) (h3 : ∀ K : Act → World → Prop, Shut (∀ a w, S w → wpSeqU P l T Q S r'' a w → K a w) → o''.wp P a w K Q) : wpSeqU P l T Q S (.three i r j r' k r'') a w := by
  refine ⟨?_, ?_, ?_⟩
  · unfold wpOp
    simp only [List.getElem?_toArray, ho, hw, if_true]
    exact .inl (h1 _ fun a w hS hW => ⟨fun _ => hS, hW⟩)
  · unfold wpOp
    simp only [List.getElem?_toArray, ho', hw', if_true]
    exact .inl (h2 _ fun a w hS hW => ⟨fun _ => hS, hW⟩)
  · unfold wpOp
    simp only [List.getElem?_toArray, ho'', hw'', if_true]
    exact .inl (h3 _ fun a w hS hW => ⟨fun _ => hS, hW⟩)
end
end Go.Proofs.Ytekobefenngedaa
