/- A region that draws its order and ends in stores: walked in one order; what is behind all that reads (the tail) may turn what was read. It holds of every program, without conditions. | The reference's random source: what it draws lies between its bounds, and it turns nothing but its own place. | The reference's random source: numbers and strings out of lists; a source over some bytes. | Contracts of the leaves on words. | Plain: the greatest relation in which the edges of two systems answer each other, as a list of sets. No program in sight. | The members of a set, walked. | Plain: the sets of the states that letters lead to, and what makes edges answer each other, in bits. | impl.answers, walked. -/
import Derived.Test.YtbifoikcmjmdeaaDoorG01
import Derived.IntWalk
import Derived.Test.YtbifoikcmjmdeaaDoorG02
namespace Go.Proofs.YtbifoikcmjmdeaaDoor
open Go Go.RowKit

section
variable {P : Program} {ops : Array Oper} {Q : Exit → Act → World → Prop} {md : Region.Mode} {S : Array Bool → World → Prop}

/-- Whatever order is picked; behind every operation the condition of what has come up holds. -/
def wpAnyL (P : Program) (md : Region.Mode) (ops : Array Oper) (Q : Exit → Act → World → Prop) (S : Array Bool → World → Prop) : Nat → Array Bool → Act → World → Prop
  | 0, listed, a, w => Region.ready md ops listed = [] ∧ Q .normal a w
  | fuel + 1, listed, a, w =>
    (Region.ready md ops listed = [] → Q .normal a w) ∧
    ∀ i ∈ Region.ready md ops listed, wpOp P ops Q i (fun a' w' => S (listed.setIfInBounds i true) w' ∧ wpAnyL P md ops Q S fuel (listed.setIfInBounds i true) a' w') a w
theorem wpAny_of_L : ∀ (fuel : Nat) (listed : Array Bool) (a : Act) (w : World), wpAnyL P md ops Q S fuel listed a w → wpAny P md ops Q fuel listed a w
  | 0, _, _, _, h => h
  | fuel + 1, _, _, _, h => ⟨h.1, fun i hi => wpOp_mono (fun a' w' h' => wpAny_of_L fuel _ a' w' h'.2) (h.2 i hi)⟩
theorem wpAnyL_first {i : Nat} {oi : Oper} {v : Value} {Si : World → Prop} {G : Array Bool → Prop} (hi : ops[i]? = some oi) (hsel : ∀ (j : Nat) (o : Oper) cs b, ops[j]? = some o → o.op ≠ .select cs b)
    (hQ : ∀ c a w, Q (.panic c) (a.put oi.dst v) w → Q (.panic c) a w)
    (hG : ∀ listed j, j ∈ Region.ready md ops listed → G listed → G (listed.setIfInBounds j true))
    (hSi : ∀ listed w, G listed → listed.getD i true = false → S listed w → Si w)
    (hup : ∀ listed w, S listed w → S (listed.setIfInBounds i true) w) (hdn : ∀ listed w, listed.getD i true = false → S (listed.setIfInBounds i true) w → S listed w) :
    ∀ (fuel : Nat) (listed : Array Bool) (a : Act) (w : World), G listed →
      (∀ j oj, ops[j]? = some oj → j ≠ i → listed.getD j true = false → (∀ e ∈ oj.after, Region.binds md e = true → e.on ≠ i) → oi.apart ops oj = true) →
      i ∈ Region.ready md ops listed → YieldsIf P ops Si oi v a → S listed w →
      wpAnyL P md ops Q S fuel (listed.setIfInBounds i true) (a.put oi.dst v) w → wpAnyL P md ops Q S (fuel + 1) listed a w := by
  intro fuel
  induction fuel with
  | zero =>
    intro listed a w hg _ hr hy hS H
    refine ⟨fun h => (by rw [h] at hr; cases hr), fun j hj => ?_⟩
    by_cases hji : j = i
    · subst hji; exact hy.wpOp hi (hSi _ _ hg (mem_ready.1 hr).1 hS) ⟨hup _ _ hS, H⟩
    · have := ready_mono hj hji
      rw [H.1] at this
      cases this
  | succ fuel ih =>
    intro listed a w hg hfree hr hy hS H
    refine ⟨fun h => (by rw [h] at hr; cases hr), fun j hj => ?_⟩
    by_cases hji : j = i
    · subst hji; exact hy.wpOp hi (hSi _ _ hg (mem_ready.1 hr).1 hS) ⟨hup _ _ hS, H⟩
    · have h1 := H.2 j (ready_mono hj hji)
      obtain ⟨hjun, oj, hoj, hall⟩ := mem_ready.1 hj
      have hnot : ∀ e ∈ oj.after, Region.binds md e = true → e.on ≠ i := fun e he hb heq => by
        have h1 := hall e he hb
        have h0 := (mem_ready.1 hr).1
        rw [heq] at h1
        rcases Nat.lt_or_ge i listed.size with h' | h'
        · simp [h'] at h0 h1; rw [h0] at h1; cases h1
        · simp [Array.getElem?_eq_none h'] at h1
      have h2 := wpOp_putIf hoj (hfree j oj hoj hji hjun hnot) (fun cs b => hsel i oi cs b hi) (fun cs b => hsel j oj cs b hoj) hQ hy h1
      have hfree' : ∀ k ok, ops[k]? = some ok → k ≠ i → (listed.setIfInBounds j true).getD k true = false →
          (∀ e ∈ ok.after, Region.binds md e = true → e.on ≠ i) → oi.apart ops ok = true := fun k ok hk hki hun hno => by
        refine hfree k ok hk hki ?_ hno
        by_cases hjk : j = k
        · subst hjk; exact hjun
        · rw [getD_set_ne true hjk] at hun; exact hun
      have hiun : (listed.setIfInBounds j true).getD i true = false := by
        rw [getD_set_ne true hji]; exact (mem_ready.1 hr).1
      refine wpOp_mono (fun a' w' h3 => ?_) h2
      have h4 : S (listed.setIfInBounds j true) w' := hdn _ _ hiun (by rw [Array.setIfInBounds_comm _ _ hji]; exact h3.2.1)
      refine ⟨h4, ih (listed.setIfInBounds j true) a' w' (hG _ _ hj hg) hfree' (ready_mono hr (Ne.symm hji)) h3.1 h4 ?_⟩
      rw [Array.setIfInBounds_comm _ _ hji]
      exact h3.2.2
end

/-- What has come up is shut downward. -/
def Clo (l : List Oper) (listed : Array Bool) : Prop := ∀ j, listed.getD j false = true → ∀ o, l[j]? = some o → ∀ e ∈ o.after, Region.binds .any e = true → listed.getD e.on false = true
/-- Number i comes ahead of t, by the region's edges. -/
def below (l : List Oper) : Nat → Nat → Nat → Bool
  | 0, _, _ => false
  | f + 1, t, i => match l[t]? with
    | some o => o.after.any fun e => Region.binds .any e && (e.on == i || below l f e.on i)
    | none => false
theorem below_spec {l : List Oper} {listed : Array Bool} (hc : Clo l listed) : ∀ (f t i : Nat), below l f t i = true → listed.getD t false = true → listed.getD i false = true
  | 0, _, _, h, _ => by simp [below] at h
  | f + 1, t, i, h, ht => by
    unfold below at h
    cases ho : l[t]? with
    | none => simp [ho] at h
    | some o =>
      simp only [ho] at h
      obtain ⟨e, he, hb⟩ := Array.any_eq_true'.1 h
      simp only [Bool.and_eq_true, Bool.or_eq_true, beq_iff_eq] at hb
      have h1 := hc t ht o ho e he hb.1
      rcases hb.2 with h2 | h2
      · rw [← h2]; exact h1
      · exact below_spec hc f e.on i h2 h1
theorem clo_step {l : List Oper} {listed : Array Bool} {j : Nat} (hj : j ∈ Region.ready .any l.toArray listed) (h : Clo l listed) : Clo l (listed.setIfInBounds j true) := by
  intro k hk o ho e he hb
  by_cases hkj : j = k
  · subst hkj
    obtain ⟨_, o', ho', hall⟩ := mem_ready.1 hj
    have : o' = o := by
      have h1 : l[j]? = some o' := by simpa using ho'
      rw [ho] at h1
      exact (Option.some.inj h1).symm
    subst this
    exact getD_set_true (hall e he hb)
  · rw [getD_set_ne false hkj] at hk
    exact getD_set_true (h k hk o ho e he hb)

/-- Operations whose value hangs on no memory. -/
def pureOp : Op → Bool
  | .move _ | .assign _ | .pick _ _ _ | .binOp _ _ _ _ _ | .unOp _ _ _ | .fieldAddr _ _ _ | .field _ _ _ | .extract _ _ | .build _ _ => true
  | _ => false

/-- An order of a region's operations; where two may come up, both. -/
inductive Ord where
  | nil : Ord
  | one : Nat → Ord → Ord
  | two : Nat → Ord → Nat → Ord → Ord
/-- One order. -/
def Ord.of : List Nat → Ord
  | [] => .nil
  | i :: r => .one i (Ord.of r)
/-- Ahead of another order. -/
def Ord.app : List Nat → Ord → Ord
  | [], o => o
  | i :: r, o => .one i (Ord.app r o)
/-- The order serves: as okOrd, with the operations of the tail T, each behind all that reads memory. -/
def okOrdT (l : List Oper) (T : List Nat) : Ord → Array Bool → Bool
  | .nil, listed => (Region.ready .any l.toArray listed).isEmpty
  | .one i rest, listed =>
    (match l[i]? with
      | some o => if quietOp o.op then Region.free .any l.toArray listed i && (Region.ready .any l.toArray listed).contains i && !T.contains i && (pureOp o.op || T.all fun t => below l l.length t i)
        else Region.ready .any l.toArray listed == [i]
      | none => false) && okOrdT l T rest (listed.setIfInBounds i true)
  | .two i r j r', listed => (i < l.length && j < l.length && Region.ready .any l.toArray listed == [i, j]) && (okOrdT l T r (listed.setIfInBounds i true) && okOrdT l T r' (listed.setIfInBounds j true))

def wpSeqT (P : Program) (l : List Oper) (T : List Nat) (Q : Exit → Act → World → Prop) (S : World → Prop) : Ord → Act → World → Prop
  | .nil, a, w => Q .normal a w
  | .one i rest, a, w => match l[i]? with
    | some o => if quietOp o.op then ∃ v, YieldsIf P l.toArray (if pureOp o.op then fun _ => True else S) o v a ∧ wpSeqT P l T Q S rest (a.put o.dst v) w
      else wpOp P l.toArray Q i (fun a' w' => (T.contains i = false → S w') ∧ wpSeqT P l T Q S rest a' w') a w
    | none => False
  | .two i r j r', a, w => wpOp P l.toArray Q i (fun a' w' => (T.contains i = false → S w') ∧ wpSeqT P l T Q S r a' w') a w ∧ wpOp P l.toArray Q j (fun a' w' => (T.contains j = false → S w') ∧ wpSeqT P l T Q S r' a' w') a w
/-- How many operations an order has. -/
def Ord.len : Ord → Nat
  | .nil => 0
  | .one _ r => r.len + 1
  | .two _ r _ r' => (if r.len = r'.len then r.len else 0) + 1
/-- Both ways are of one length. -/
def Ord.even : Ord → Bool
  | .nil => true
  | .one _ r => r.even
  | .two _ r _ r' => r.len == r'.len && (r.even && r'.even)

section
variable {P : Program} {l : List Oper} {Q : Exit → Act → World → Prop} {S : World → Prop} {T : List Nat}

def tailed (T : List Nat) (listed : Array Bool) : Prop := ∃ t ∈ T, listed.getD t false = true
theorem seqT_sound (hs : Region.noSelect l.toArray = true) (hQ : ∀ (c : List PanicEntry) (a : Act) (d : Tmp) (v : Value) (w : World), Q (.panic c) (a.put (some d) v) w → Q (.panic c) a w) :
    ∀ (ord : Ord) (listed : Array Bool) (a : Act) (w : World), listed.size = l.length → Clo l listed → ord.even = true → okOrdT l T ord listed = true → (tailed T listed ∨ S w) → wpSeqT P l T Q S ord a w →
      wpAnyL P .any l.toArray Q (fun listed w => tailed T listed ∨ S w) ord.len listed a w
  | .nil, listed, a, w, _, _, _, hok, _, h => by
    simp only [okOrdT, List.isEmpty_iff] at hok
    exact ⟨hok, h⟩
  | .one i rest, listed, a, w, hsz, hc, hev, hok, hS, h => by
    cases ho : l[i]? with
    | none => simp [okOrdT, ho] at hok
    | some o =>
      have hil : i < l.length := (List.getElem?_eq_some_iff.1 ho).1
      simp only [okOrdT, ho, Bool.and_eq_true] at hok
      simp only [wpSeqT, ho] at h
      by_cases hq : quietOp o.op = true
      · rw [if_pos hq] at hok h
        simp only [Bool.and_eq_true] at hok
        obtain ⟨⟨⟨⟨hf, hrd⟩, hnT⟩, hpure⟩, hrest⟩ := hok
        obtain ⟨v, hy, hr⟩ := h
        have hmem : i ∈ Region.ready .any l.toArray listed := by simpa using hrd
        have hnT' : i ∉ T := by simpa using hnT
        have hset : ∀ listed : Array Bool, tailed T (listed.setIfInBounds i true) ↔ tailed T listed := fun listed => by
          constructor
          · rintro ⟨t, ht, hl⟩
            refine ⟨t, ht, ?_⟩
            rwa [getD_set_ne false (by rintro rfl; exact hnT' ht)] at hl
          · rintro ⟨t, ht, hl⟩
            exact ⟨t, ht, getD_set_true hl⟩
        refine wpAnyL_first (G := fun listed => Clo l listed ∧ listed.size = l.length) (by simpa using ho) (Region.noSelect_spec hs)
          (fun c a w h => by cases hd : o.dst with | none => rw [hd] at h; exact h | some d => rw [hd] at h; exact hQ c a d v w h)
          (fun li j hj hg => ⟨clo_step hj hg.1, by simpa using hg.2⟩) ?_ (fun li w h => h.imp (fun x => (hset li).2 x) id) (fun li w _ h => h.imp (fun x => (hset li).1 x) id)
          rest.len listed a w ⟨hc, hsz⟩ (Region.free_spec (by simpa using ho) hf) hmem hy hS ?_
        · intro li w' hg hun h
          by_cases hp : pureOp o.op = true
          · rw [if_pos hp]; trivial
          · rw [if_neg hp]
            rcases h with ⟨t, ht, hl⟩ | h
            · exfalso
              simp only [hp, Bool.false_or] at hpure
              have hb := List.all_eq_true.1 hpure t ht
              have h1 := below_spec hg.1 _ _ _ hb hl
              have h2 : i < li.size := by rw [hg.2]; exact hil
              simp [h2] at hun h1
              rw [h1] at hun; cases hun
            · exact h
        · exact seqT_sound hs hQ rest _ _ _ (by simpa using hsz) (clo_step hmem hc) hev hrest (hS.imp (fun x => (hset _).2 x) id) hr
      · rw [if_neg hq] at hok h
        have hready : Region.ready .any l.toArray listed = [i] := by simpa using hok.1
        have hmem : i ∈ Region.ready .any l.toArray listed := by rw [hready]; simp
        refine ⟨fun h0 => (by rw [h0] at hready; cases hready), fun j hj => ?_⟩
        rw [hready] at hj
        rw [List.mem_singleton.1 hj]
        refine wpOp_mono (fun a' w' h => ?_) h
        have hS' : tailed T (listed.setIfInBounds i true) ∨ S w' := by
          cases hT : T.contains i
          · exact Or.inr (h.1 hT)
          · refine Or.inl ⟨i, by simpa using hT, ?_⟩
            have : i < listed.size := by omega
            simp [this]
        exact ⟨hS', seqT_sound hs hQ rest _ _ _ (by simpa using hsz) (clo_step hmem hc) hev hok.2 hS' h.2⟩
  | .two i r j r', listed, a, w, hsz, hc, hev, hok, hS, h => by
    simp only [Ord.even, Bool.and_eq_true, beq_iff_eq] at hev
    simp only [okOrdT, Bool.and_eq_true, decide_eq_true_eq, beq_iff_eq] at hok
    simp only [wpSeqT] at h
    obtain ⟨⟨⟨hi, hj⟩, hready⟩, hok1, hok2⟩ := hok
    have hlen : (Ord.two i r j r').len = r.len + 1 := by simp [Ord.len, hev.1]
    rw [hlen]
    have hm : ∀ k, k ∈ Region.ready .any l.toArray listed ↔ k = i ∨ k = j := fun k => by rw [hready]; simp
    have hS' : ∀ k w', k < l.length → (T.contains k = false → S w') → tailed T (listed.setIfInBounds k true) ∨ S w' := fun k w' hk hx => by
      cases hT : T.contains k
      · exact Or.inr (hx hT)
      · refine Or.inl ⟨k, by simpa using hT, ?_⟩
        have : k < listed.size := by omega
        simp [this]
    refine ⟨fun h0 => (by rw [h0] at hready; cases hready), fun k hk => ?_⟩
    rcases (hm k).1 hk with hk' | hk'
    · rw [hk'] at hk ⊢
      refine wpOp_mono (fun a' w' h => ?_) h.1
      exact ⟨hS' _ _ hi h.1, seqT_sound hs hQ r _ _ _ (by simpa using hsz) (clo_step hk hc) hev.2.1 hok1 (hS' _ _ hi h.1) h.2⟩
    · rw [hk'] at hk ⊢
      refine wpOp_mono (fun a' w' h => ?_) h.2
      have := seqT_sound hs hQ r' _ _ _ (by simpa using hsz) (clo_step hk hc) hev.2.2 hok2 (hS' _ _ hj h.1) h.2
      rw [← hev.1] at this
      exact ⟨hS' _ _ hj h.1, this⟩

theorem clo_start (l : List Oper) : Clo l (Array.replicate l.length false) := by
  intro j hj
  exfalso
  rcases Nat.lt_or_ge j l.length with h | h
  · simp [h] at hj
  · simp [Nat.not_lt.2 h] at hj

/-- The region, walked in one order: what reads under S first, then the tail. -/
theorem wp_region_tail {id : Nat} {a : Act} {w : World} (S : World → Prop) (T : List Nat) (ord : Ord) (hm : P.follows .mixedOrders = true) (hlen : ord.len = l.length) (hev : ord.even = true) (hs : Region.noSelect l.toArray = true) (hok : okOrdT l T ord (Array.replicate l.length false) = true)
    (hQ : ∀ (c : List PanicEntry) (a : Act) (d : Tmp) (v : Value) (w : World), Q (.panic c) (a.put (some d) v) w → Q (.panic c) a w) (hS : S w.drew) (h : wpSeqT P l T Q S ord a w.drew) : (Code.region id l.toArray true).wp P Q a w := by
  refine wp_region_any hm ?_
  have := wpAny_of_L _ _ _ _ (seqT_sound hs hQ ord _ a w.drew (by simp) (clo_start l) hev hok (Or.inr hS) h)
  rw [hlen] at this
  simpa using this

theorem tseq_nil {a : Act} {w : World} (h : Q .normal a w) : wpSeqT P l T Q S .nil a w := h
/-- A step that needs no memory. -/
theorem tseq_pure {i : Nat} {rest : Ord} {o : Oper} {v : Value} {a : Act} {w : World} (ho : l[i]? = some o) (hq : quietOp o.op = true) (_hp : pureOp o.op = true) (hw : Region.wanted o (yielded l.toArray a.tmps) = true)
    (hy : ∀ W, (execOp a.eval o).run P W = .ok (.value v) W) (h : wpSeqT P l T Q S rest (a.put o.dst v) w) : wpSeqT P l T Q S (.one i rest) a w := by
  simp only [wpSeqT, ho, hq, if_true]
  exact ⟨v, .inl ⟨hw, fun W _ => hy W⟩, h⟩
/-- A step that reads. -/
theorem tseq_read {i : Nat} {rest : Ord} {o : Oper} {v : Value} {a : Act} {w : World} (ho : l[i]? = some o) (hq : quietOp o.op = true) (hp : pureOp o.op = false) (hw : Region.wanted o (yielded l.toArray a.tmps) = true)
    (hy : ∀ W, S W → (execOp a.eval o).run P W = .ok (.value v) W) (h : wpSeqT P l T Q S rest (a.put o.dst v) w) : wpSeqT P l T Q S (.one i rest) a w := by
  simp only [wpSeqT, ho, hq, hp, if_true]
  exact ⟨v, .inl ⟨hw, hy⟩, h⟩
/-- A step whose guard is off. -/
theorem tseq_skip {i : Nat} {rest : Ord} {o : Oper} {a : Act} {w : World} (ho : l[i]? = some o) (hw : Region.wanted o (yielded l.toArray a.tmps) = false)
    (hS : S w) (h : wpSeqT P l T Q S rest (a.put o.dst undef) w) : wpSeqT P l T Q S (.one i rest) a w := by
  simp only [wpSeqT, ho]
  split
  · exact ⟨undef, .inr ⟨hw, rfl⟩, h⟩
  · unfold wpOp
    simp only [List.getElem?_toArray, ho, hw, Bool.false_eq_true, if_false]
    exact ⟨fun _ => hS, h⟩
/-- A step that makes memory, or calls, ahead of the tail. -/
theorem tseq_step {i : Nat} {rest : Ord} {o : Oper} {a : Act} {w : World} (ho : l[i]? = some o) (hq : quietOp o.op = false) (hw : Region.wanted o (yielded l.toArray a.tmps) = true)
    (h : ∀ K : Act → World → Prop, Shut (∀ a w, S w → wpSeqT P l T Q S rest a w → K a w) → o.wp P a w K Q) : wpSeqT P l T Q S (.one i rest) a w := by
  simp only [wpSeqT, ho, hq]
  unfold wpOp
  simp only [List.getElem?_toArray, ho, hw, if_true]
  exact .inl (h _ fun a w hS hW => ⟨fun _ => hS, hW⟩)
/-- A step of the tail. -/
theorem tseq_last {i : Nat} {rest : Ord} {o : Oper} {a : Act} {w : World} (ho : l[i]? = some o) (hq : quietOp o.op = false) (hT : T.contains i = true) (hw : Region.wanted o (yielded l.toArray a.tmps) = true)
    (h : ∀ K : Act → World → Prop, Shut (∀ a w, wpSeqT P l T Q S rest a w → K a w) → o.wp P a w K Q) : wpSeqT P l T Q S (.one i rest) a w := by
  simp only [wpSeqT, ho, hq]
  unfold wpOp
  simp only [List.getElem?_toArray, ho, hw, if_true]
  exact .inl (h _ fun a w hW => ⟨fun hn => absurd (hn.symm.trans hT) (by decide), hW⟩)
end

section
variable {P : Program} {l : List Oper} {Q : Exit → Act → World → Prop} {S : World → Prop} {T : List Nat}
/-- Two that may come up, neither of the tail. -/
theorem tseq_both {i j : Nat} {r r' : Ord} {o o' : Oper} {a : Act} {w : World} (ho : l[i]? = some o) (ho' : l[j]? = some o') (hw : Region.wanted o (yielded l.toArray a.tmps) = true) (hw' : Region.wanted o' (yielded l.toArray a.tmps) = true)
    (h1 : ∀ K : Act → World → Prop, Shut (∀ a w, S w → wpSeqT P l T Q S r a w → K a w) → o.wp P a w K Q) (h2 : ∀ K : Act → World → Prop, Shut (∀ a w, S w → wpSeqT P l T Q S r' a w → K a w) → o'.wp P a w K Q) : wpSeqT P l T Q S (.two i r j r') a w := by
  constructor
  · unfold wpOp
    simp only [List.getElem?_toArray, ho, hw, if_true]
    exact .inl (h1 _ fun a w hS hW => ⟨fun _ => hS, hW⟩)
  · unfold wpOp
    simp only [List.getElem?_toArray, ho', hw', if_true]
    exact .inl (h2 _ fun a w hS hW => ⟨fun _ => hS, hW⟩)
end
/-- 'append(s, x)' of one element, in a region that draws. -/
theorem wp_push {P : Program} (wb w : World) {o : Oper} {a : Act} {K : Act → World → Prop} {Q : Exit → Act → World → Prop} (s x : Operand) (t : TypeId)
    (ho : o.op = .call { callee := .builtin .append, args := #[s, x], argTypes := #[t, t] })
    (e : TypeId) (z : Value) (size bytes : Nat) (ht : P.underlying t = some (.slice e)) (hi : (P.info? e).map (fun i => (i.zero, i.size, i.bytes)) = some (some z, size, bytes)) (hzs : z.cells.size = size) (hsz : 0 < size)
    (v : Value) (n : Nat) (xs : List Value) (us : Array Value) (e' : TypeId) (hs : a.eval s = v) (hx : a.eval x = .slice (some ⟨w.heap.size, 0, none⟩) 1 1)
    (hext : wb.heap.size ≤ w.heap.size) (hown : w.ownsRow wb.heap.size e size v n xs) (hus : us.size = size) (h1 : ∀ u ∈ us.toList, u.oneCell' = true)
    (h63 : n + 1 ≤ maxLen) (hbytes : (n + 1) * bytes ≤ 140737488355328)
    (h : ∀ g cap w', w'.ownsRow wb.heap.size e size (.slice (some ⟨g, 0, none⟩) (n + 1) cap) (n + 1) (xs ++ us.toList) → w.grownBy w' v.ownBlock → (v.ownBlock = some g ∨ g = w.heap.size + 1) → g < w'.heap.size → K (a.put o.dst (.slice (some ⟨g, 0, none⟩) (n + 1) cap)) w') :
    o.wp P a (w.alloc (.cells us e')) K Q := by
  obtain ⟨i, hi0, hz0, hz1, hz2⟩ := info_parts hi
  refine wp_append_lies (w.alloc (.cells us e')) s x t ho wb.heap.size e i z size bytes ht hi0 hz0 hz1 hz2 hzs hsz v n xs hs (hown.alloc _) ⟨w.heap.size, 0, none⟩ 1 1 us.toList hx (by simpa using hus) ?_ h1 (by omega) h63 hbytes (by simp; omega) (w.heap.size + 1) (by simp) ?_
  · intro j u hu
    rw [addr_lit, Nat.zero_add, (Blk.new w e' us).cell]
    simpa using hu
  · intro g cap w' hown' hg hat hlt
    have hg' : w.grownBy w' v.ownBlock := ⟨hg.os, hg.tape, hg.output, Nat.le_trans (by simp) hg.size, fun k hk hne => (hg.block k (by simp; omega) hne).trans (Below.heap_alloc w _ k hk)⟩
    exact h g cap w' hown' hg' hat hlt
/-- 'append(s, x)' of one element, in a region that keeps its order. -/
theorem wpList_push3 {P : Program} (wb w : World) {ops : Array Oper} {rest : List Oper} {o : Oper} {a : Act} {Q : Exit → Act → World → Prop} (hgd : o.guard = none) (s x : Operand) (t : TypeId)
    (ho : o.op = .call { callee := .builtin .append, args := #[s, x], argTypes := #[t, t] })
    (e : TypeId) (z : Value) (size bytes : Nat) (ht : P.underlying t = some (.slice e)) (hi : (P.info? e).map (fun i => (i.zero, i.size, i.bytes)) = some (some z, size, bytes)) (hzs : z.cells.size = size) (hsz : 0 < size)
    (v : Value) (n : Nat) (xs : List Value) (us : Array Value) (e' : TypeId) (hs : a.eval s = v) (hx : a.eval x = .slice (some ⟨w.heap.size, 0, none⟩) 1 1)
    (hext : wb.heap.size ≤ w.heap.size) (hown : w.ownsRow wb.heap.size e size v n xs) (hus : us.size = size) (h1 : ∀ u ∈ us.toList, u.oneCell' = true)
    (h63 : n + 1 ≤ maxLen) (hbytes : (n + 1) * bytes ≤ 140737488355328)
    (h : ∀ g cap w', w'.ownsRow wb.heap.size e size (.slice (some ⟨g, 0, none⟩) (n + 1) cap) (n + 1) (xs ++ us.toList) → w.grownBy w' v.ownBlock → (v.ownBlock = some g ∨ g = w.heap.size + 1) → g < w'.heap.size → wpList P ops Q rest (a.put o.dst (.slice (some ⟨g, 0, none⟩) (n + 1) cap)) w') :
    wpList P ops Q (o :: rest) a (w.alloc (.cells us e')) :=
  wpList_plain hgd fun _ hK => wp_push wb w s x t ho e z size bytes ht hi hzs hsz v n xs us e' hs hx hext hown hus h1 h63 hbytes fun g cap w' h2 h3 h4 h5 => hK _ _ (h g cap w' h2 h3 h4 h5)
end Go.Proofs.YtbifoikcmjmdeaaDoor

namespace Go.Proofs.YtbifoikcmjmdeaaDoor
open Go Go.RowKit
set_option maxHeartbeats 1000000

/-- Block R is a source over these few bytes, whose place is at most M. -/
def Rd (w : World) (R M : Nat) : Prop :=
  ∃ (A : Option Addr) (n c p : Nat), p ≤ M ∧ n ≤ 2000 ∧ Blk w R 64 #[.slice A n c, .int .i64 p] ∧ (0 < n → ∃ g o, A = some ⟨g, o, none⟩ ∧ g < R ∧ ∀ j, j < n → ∃ b : Nat, b < 256 ∧ w.cell? ⟨g, o + j, none⟩ = some (.int .u8 b))
/-- Nothing old has turned but the source R. -/
def Dr (R : Nat) (w w' : World) : Prop := Frm (fun k => k = R) w w'
theorem Dr.refl (R : Nat) (w : World) : Dr R w w := Frm.refl _ _
theorem Dr.trans {R : Nat} {a b c : World} (h : Dr R a b) (k : Dr R b c) : Dr R a c := Frm.trans h k
theorem Dr.ext {R : Nat} {a b c : World} (h : Dr R a b) (k : Ext b c) : Dr R a c := Frm.ext h k
theorem Ext.dr {R : Nat} {a b : World} (h : Ext a b) : Dr R a b := h.toFrm
theorem Dr.drew {R : Nat} {a w : World} (h : Dr R a w) : Dr R a w.drew := ⟨h.os, h.tape, h.output, h.size, h.block⟩
theorem Dr.drewN {R : Nat} {a w : World} (h : Dr R a w) (n : Nat) : Dr R a (w.drewN n) := ⟨h.os, h.tape, h.output, h.size, h.block⟩
theorem Dr.alloc {R : Nat} {a w : World} (h : Dr R a w) (o : Obj) : Dr R a (w.alloc o) := h.ext ((Ext.refl _).alloc _)
theorem Dr.setNew {R : Nat} {a w : World} (h : Dr R a w) {p : Addr} (hp : a.heap.size ≤ p.block) (u : Value) : Dr R a (w.setCell p u) :=
  ⟨h.os, h.tape, h.output, by simpa [World.setCell] using h.size, fun k hk hn => (Below.heap_setCell _ _ _ _ (by omega)).trans (h.block k hk hn)⟩
theorem Dr.grown {R : Nat} {a w w' : World} {row : Option Nat} (h : Dr R a w) (hg : w.grownBy w' row) (hr : ∀ k, row = some k → a.heap.size ≤ k) : Dr R a w' :=
  ⟨hg.os.trans h.os, hg.tape.trans h.tape, hg.output.trans h.output, Nat.le_trans h.size hg.size,
    fun k hk hn => (hg.block k (Nat.lt_of_lt_of_le hk h.size) (fun e => by have := hr k e.symm; omega)).trans (h.block k hk hn)⟩
theorem Blk.dr {w w' : World} {R g : Nat} {t : TypeId} {cs : Array Value} (h : Blk w g t cs) (hb : Dr R w w') (hg : g ≠ R) : Blk w' g t cs := h.frm hb hg
theorem Dr.cell_some {R : Nat} {w w' : World} (h : Dr R w w') {p : Addr} {v : Value} (hv : w.cell? p = some v) (hp : p.block ≠ R) : w'.cell? p = some v :=
  (World.cell?_of_block (w := w) (h.block _ (World.block_lt_of_cell? w p hv) hp)).trans hv
theorem Rd.ext {w w' : World} {R M : Nat} (h : Rd w R M) (hb : Ext w w') : Rd w' R M := by
  obtain ⟨A, n, c, p, hp, hn, hB, hx⟩ := h
  refine ⟨A, n, c, p, hp, hn, hB.ext hb, fun h0 => ?_⟩
  obtain ⟨g, o, e, hg, hc⟩ := hx h0
  exact ⟨g, o, e, hg, fun j hj => by obtain ⟨b, hb1, hb2⟩ := hc j hj; exact ⟨b, hb1, hb.cell_some hb2⟩⟩
theorem Rd.more {w : World} {R M N : Nat} (h : Rd w R M) (hM : M ≤ N) : Rd w R N := by
  obtain ⟨A, n, c, p, hp, r⟩ := h
  exact ⟨A, n, c, p, Nat.le_trans hp hM, r⟩
theorem Rd.lt {w : World} {R M : Nat} (h : Rd w R M) : R < w.heap.size := by
  obtain ⟨A, n, c, p, _, _, hB, _⟩ := h
  exact hB.lt
/-- Writes elsewhere leave the source as it is. -/
theorem Rd.frm {S : Nat → Prop} {w w' : World} {R M : Nat} (h : Rd w R M) (hb : Frm S w w') (hS : ∀ k, k ≤ R → ¬ S k) : Rd w' R M := by
  obtain ⟨A, n, c, p, hp, hn, hB, hx⟩ := h
  refine ⟨A, n, c, p, hp, hn, hB.frm hb (hS R (Nat.le_refl _)), fun h0 => ?_⟩
  obtain ⟨g, o, e, hg, hc⟩ := hx h0
  exact ⟨g, o, e, hg, fun j hj => by
    obtain ⟨b, hb1, hb2⟩ := hc j hj
    exact ⟨b, hb1, (World.cell?_of_block (w := w) (hb.block g (World.block_lt_of_cell? w _ hb2) (hS g (by omega)))).trans hb2⟩⟩

/-- A number below n, or 0. -/
def RetPick (R M : Nat) (n : Int) (w : World) (e : Ending) (w' : World) : Prop := ∃ k : Nat, e = .returned (.int .i64 k) ∧ (1 ≤ n → (k : Int) < n) ∧ (n < 1 → k = 0) ∧ Rd w' R (M + 1) ∧ Dr R w w'

theorem bits_xor_nat {a b : Nat} (ha : a < 4611686018427387904) (hb : b < 4611686018427387904) : bits .xor .i64 (a : Int) (b : Int) = ((a ^^^ b : Nat) : Int) := by
  have hx : a ^^^ b < 2 ^ 62 := Nat.xor_lt_two_pow (by simpa using ha) (by simpa using hb)
  show IntKind.i64.wrap ((BitVec.ofInt 64 (a : Int) ^^^ BitVec.ofInt 64 (b : Int)).toNat : Int) = _
  rw [BitVec.toNat_xor, i64_toNat a (by omega), i64_toNat b (by omega), IntKind.wrap_i64]
  omega

theorem l19Rd_pick {R M : Nat} {n : Int} {w : World} (h : Rd w R M) (hM : M ≤ 1000000000) :
    Calls Tryd.prog 47 #[.pointer (some ⟨R, 0, none⟩), .int .i64 n] w (RetPick R M n w) := by
  obtain ⟨A, m, c, p, hp, hm, hB, hx⟩ := h
  have c0 := hB.cell 0
  have c1 := hB.cell 1
  have f1 := hB.frozen 1
  have hB1 := hB.set_ 1 (.int .i64 ((p : Int) + 1))
  have hfr := Frm.setCell w R 1 (.int .i64 ((p : Int) + 1))
  have hpb : (p : Int) ≤ 1000000000 := by omega
  have hRd : Hid (Rd (w.setCell ⟨R, 1, none⟩ (.int .i64 ((p : Int) + 1))) R (M + 1)) := by
    refine hide ⟨A, m, c, p + 1, by omega, hm, by simpa using hB1, fun h0 => ?_⟩
    obtain ⟨g, o, e, hg, hc⟩ := hx h0
    exact ⟨g, o, e, hg, fun j hj => by
      obtain ⟨b, hb1, hb2⟩ := hc j hj
      exact ⟨b, hb1, (World.cell?_of_block (w := w) (hfr.block g (World.block_lt_of_cell? w _ hb2) (by show ¬ g = R; omega))).trans hb2⟩⟩
  simp only [List.getElem?_toArray, List.getElem?_cons_zero, List.getElem?_cons_succ] at c0 c1
  by_cases hn : n < 1
  · go_enter Tryd.func47, Tryd.ntmps47
    go_wp2
    go_ret
    exact ⟨0, rfl, fun h => by omega, fun _ => rfl, hRd.out, hfr⟩
  · by_cases h0 : m = 0
    · subst h0
      go_enter Tryd.func47, Tryd.ntmps47
      go_wp2
      go_ret
      exact ⟨0, rfl, fun h => by omega, fun _ => rfl, hRd.out, hfr⟩
    · obtain ⟨k, rfl⟩ : ∃ k : Nat, n = k := ⟨n.toNat, by omega⟩
      have hk1 : (1 : Int) ≤ (k : Int) := by omega
      obtain ⟨g, o, rfl, hg, hc⟩ := hx (by omega)
      have hgR : ¬ g = R := by omega
      have hm0 : (0 : Int) < (m : Int) := by omega
      have hm2 : (m : Int) ≤ 2000 := by omega
      have he0 : ((m : Int) == 0) = false := by simp; omega
      have Hc := hide hc
      clear hc hx
      by_cases hpm : p < m
      · obtain ⟨b, hb, hcb⟩ := Hc.out p hpm
        have hb0 : (b : Int) < 256 := by omega
        have hpm' : (p : Int) < (m : Int) := by omega
        have hmod := hide (Int.natCast_emod b k)
        go_enter Tryd.func47, Tryd.ntmps47
        go_wp2
        go_ret
        exact ⟨b % k, ret_int hmod.out.symm, fun _ => by rw [hmod.out]; exact Int.emod_lt_of_pos _ (by omega), fun h => by omega, hRd.out, hfr⟩
      · have hq1 : p % m < m := Nat.mod_lt _ (by omega)
        have hq2 : (p * 7 + 3) % m < m := Nat.mod_lt _ (by omega)
        have hq3 : p / m ≤ p := Nat.div_le_self _ _
        obtain ⟨b1, hb1, hc1⟩ := Hc.out _ hq1
        obtain ⟨b2, hb2, hc2⟩ := Hc.out _ hq2
        have t1 : (p : Int).tmod (m : Int) = ((p % m : Nat) : Int) := by rw [Int.tmod_eq_emod_of_nonneg (by omega)]; exact (Int.natCast_emod p m).symm
        have t2 : ((p : Int) * 7 + 3).tmod (m : Int) = (((p * 7 + 3) % m : Nat) : Int) := by rw [Int.tmod_eq_emod_of_nonneg (by omega)]; rw [Int.natCast_emod]; rfl
        have t3 : (p : Int).tdiv (m : Int) = ((p / m : Nat) : Int) := by rw [Int.tdiv_eq_ediv_of_nonneg (by omega)]; exact (Int.natCast_ediv p m).symm
        have hpm' : (m : Int) ≤ (p : Int) := by omega
        have hg0 : ∀ j, (w.setCell ⟨R, 1, none⟩ (.int .i64 ((p : Int) + 1))).cell? ⟨g, j, none⟩ = w.cell? ⟨g, j, none⟩ := fun j => by
          refine World.cell?_of_block ?_
          exact Below.heap_setCell _ _ _ _ (fun h => hgR h)
        have e1 := (hg0 _).trans hc1
        have e2 := (hg0 _).trans hc2
        have d0 : (w.setCell ⟨R, 1, none⟩ (.int .i64 ((p : Int) + 1))).cell? ⟨R, 0, none⟩ = some (.slice (some ⟨g, o, none⟩) m c) := by simpa using hB1.cell 0
        have T1 := hide t1
        have T2 := hide t2
        have T3 := hide t3
        clear hg0 hc1 hc2 t1 t2 t3 hB hB1
        generalize p % m = q1 at *
        generalize (p * 7 + 3) % m = q2 at *
        generalize p / m = q3 at *
        obtain ⟨x, hx⟩ : ∃ x : Nat, x = b1 * 131 + b2 * 1117 + p * 29 + q3 * 53 := ⟨_, rfl⟩
        have hxb : x < 100000000000 := by omega
        obtain ⟨y, hy⟩ : ∃ y : Nat, Hid (x ^^^ (x / 64) = y) := ⟨_, rfl⟩
        have hxor := hide (show bits .xor .i64 (x : Int) ((x : Int) / 64) = (y : Int) by rw [← hy.out]; exact bits_xor_nat (a := x) (b := x / 64) (by omega) (by omega))
        have hyb : (y : Int) < 1099511627776 := by
          have : x ^^^ (x / 64) < 2 ^ 40 := Nat.xor_lt_two_pow (by omega) (by omega)
          rw [hy.out] at this
          omega
        have hmod := hide (Int.natCast_emod y k)
        have hX : (b1 : Int) * 131 + (b2 : Int) * 1117 + (p : Int) * 29 + (q3 : Int) * 53 = (x : Int) := by omega
        have HX := hide hX
        clear hx hX
        go_enter Tryd.func47, Tryd.ntmps47
        go_wp2
        generalize w.setCell ⟨R, 1, none⟩ (.int .i64 ((p : Int) + 1)) = w1 at *
        have t1 := T1.out
        have t2 := T2.out
        have t3 := T3.out
        have a1 : IntKind.i64.wrap ((p : Int) * 7) = (p : Int) * 7 := IntWalk.i64_in _ (by omega)
        have a2 : IntKind.i64.wrap ((p : Int) * 7 + 3) = (p : Int) * 7 + 3 := IntWalk.i64_in _ (by omega)
        have a3 : IntKind.i64.wrap ((b1 : Int) * 131) = (b1 : Int) * 131 := IntWalk.i64_in _ (by omega)
        have a4 : IntKind.i64.wrap ((b2 : Int) * 1117) = (b2 : Int) * 1117 := IntWalk.i64_in _ (by omega)
        have a5 : IntKind.i64.wrap ((b1 : Int) * 131 + (b2 : Int) * 1117) = (b1 : Int) * 131 + (b2 : Int) * 1117 := IntWalk.i64_in _ (by omega)
        have a6 : IntKind.i64.wrap ((p : Int) * 29) = (p : Int) * 29 := IntWalk.i64_in _ (by omega)
        have a7 : IntKind.i64.wrap ((b1 : Int) * 131 + (b2 : Int) * 1117 + (p : Int) * 29) = (b1 : Int) * 131 + (b2 : Int) * 1117 + (p : Int) * 29 := IntWalk.i64_in _ (by omega)
        have a8 : IntKind.i64.wrap ((q3 : Int) * 53) = (q3 : Int) * 53 := IntWalk.i64_in _ (by omega)
        have a9 : IntKind.i64.wrap ((b1 : Int) * 131 + (b2 : Int) * 1117 + (p : Int) * 29 + (q3 : Int) * 53) = (x : Int) := by rw [HX.out]; exact IntWalk.i64_in _ (by omega)
        have i1 : (q1 : Int) < (m : Int) := by omega
        have i2 : (q2 : Int) < (m : Int) := by omega
        have i3 : (0 : Int) ≤ (q1 : Int) := by omega
        have i4 : (0 : Int) ≤ (q2 : Int) := by omega
        go_quiet (fail)
        clear a1 a2 a3 a4 a5 a6 a7 a8 a9 t1 t2 t3
        have hxo := hxor.out
        have hxb' : (x : Int) < 100000000000 := by omega
        go_wp2
        go_ret
        exact ⟨y % k, ret_int hmod.out.symm, fun _ => by rw [hmod.out]; exact Int.emod_lt_of_pos _ (by omega), fun h => by omega, hRd.out, Dr.drewN hfr _⟩
end Go.Proofs.YtbifoikcmjmdeaaDoor

namespace Go.Proofs.YtbifoikcmjmdeaaDoor
open Go Go.RowKit
set_option maxHeartbeats 1000000

/-- The cells of a list of strings. -/
def strs (l : List ByteArray) : List Value := l.map Value.string
theorem strs_length (l : List ByteArray) : (strs l).length = l.length := by simp [strs]
theorem Reads.dr {w w' : World} {R lo hi size n : Nat} {A : Option Addr} {xs : List Value} (h : Reads w lo hi size A n xs) (hb : Dr R w w') (hR : R < lo) : Reads w' lo hi size A n xs :=
  h.frm hb (fun k h1 _ h2 => by omega)
/-- A number out of a list. -/
def RetNum (R M : Nat) (l : List Int) (w : World) (e : Ending) (w' : World) : Prop := ∃ x, x ∈ l ∧ e = .returned (.int .i64 x) ∧ Rd w' R (M + 1) ∧ Dr R w w'
/-- A string out of a list. -/
def RetOf (R M : Nat) (l : List ByteArray) (w : World) (e : Ending) (w' : World) : Prop := ∃ x, x ∈ l ∧ e = .returned (.string x) ∧ Rd w' R (M + 1) ∧ Dr R w w'

theorem l19Rd_num {R M lo hi n c : Nat} {A : Option Addr} {l : List Int} {w : World} (h : Rd w R M) (hM : M ≤ 1000000000) (hL : Reads w lo hi 1 A n (ints l)) (hlo : R < lo) (hn : 0 < n) :
    Calls Tryd.prog 71 #[.pointer (some ⟨R, 0, none⟩), .slice A n c] w (RetNum R M l w) := by
  have hlen := hL.len
  have hn1 : (1 : Int) ≤ (n : Int) := by omega
  go_enter Tryd.func71, Tryd.ntmps71
  go_wp2_with fail
  refine (l19Rd_pick h hM).mono ?_
  rintro e w1 ⟨k, rfl, hk1, _, hr, hd⟩
  have hkn := hk1 hn1
  have hkn' : k < n := by omega
  obtain ⟨ad, x, rfl, _, _, hx, hc⟩ := (hL.dr hd hlo).int hkn'
  clear hk1
  go_wp2_with fail
  go_ret
  exact ⟨x, List.mem_of_getElem? hx.out, rfl, hr, hd⟩
theorem l19Rd_of {R M lo hi n c : Nat} {A : Option Addr} {l : List ByteArray} {w : World} (h : Rd w R M) (hM : M ≤ 1000000000) (hL : Reads w lo hi 1 A n (strs l)) (hlo : R < lo) (hn : 0 < n) :
    Calls Tryd.prog 88 #[.pointer (some ⟨R, 0, none⟩), .slice A n c] w (RetOf R M l w) := by
  have hlen := hL.len
  have hn1 : (1 : Int) ≤ (n : Int) := by omega
  go_enter Tryd.func88, Tryd.ntmps88
  go_wp2_with fail
  refine (l19Rd_pick h hM).mono ?_
  rintro e w1 ⟨k, rfl, hk1, _, hr, hd⟩
  have hkn := hk1 hn1
  have hkn' : k < n := by omega
  obtain ⟨ad, u, rfl, _, _, hu, hc⟩ := (hL.dr hd hlo).one hkn'
  obtain ⟨x, hx, rfl⟩ : ∃ x, l[k]? = some x ∧ u = .string x := by
    have := hu.out
    simp only [strs, List.getElem?_map, Option.map_eq_some_iff] at this
    obtain ⟨x, h1, h2⟩ := this
    exact ⟨x, h1, h2.symm⟩
  have Hx := hide hx
  clear hk1 hx
  go_wp2_with fail
  go_ret
  exact ⟨x, List.mem_of_getElem? Hx.out, rfl, hr, hd⟩

/-- Bytes that came in. -/
def Bytes (w : World) (A : Option Addr) (n : Nat) : Prop := 0 < n → ∃ g o, A = some ⟨g, o, none⟩ ∧ g < w.heap.size ∧ ∀ j, j < n → ∃ b : Nat, b < 256 ∧ w.cell? ⟨g, o + j, none⟩ = some (.int .u8 b)
theorem Bytes.ext {w w' : World} {A : Option Addr} {n : Nat} (h : Bytes w A n) (hb : Ext w w') : Bytes w' A n := fun h0 => by
  obtain ⟨g, o, e, hg, hc⟩ := h h0
  exact ⟨g, o, e, Nat.lt_of_lt_of_le hg hb.size, fun j hj => by obtain ⟨b, h1, h2⟩ := hc j hj; exact ⟨b, h1, hb.cell_some h2⟩⟩
/-- A new source. -/
def RetOpen (w : World) (e : Ending) (w' : World) : Prop := ∃ R, e = .returned (.pointer (some ⟨R, 0, none⟩)) ∧ w.heap.size ≤ R ∧ Rd w' R 0 ∧ Ext w w'
theorem spec_l19Open {A : Option Addr} {n c : Nat} {w : World} (h : Bytes w A n) (hn : n ≤ 9223372036854775807) (hc : n ≤ c) (hc2 : c ≤ 9223372036854775807) :
    Calls Tryd.prog 24 #[.slice A n c] w (RetOpen w) := by
  by_cases hb : 2000 < n
  · obtain ⟨g, o, rfl, hg, hcell⟩ := h (by omega)
    have Hcell := hide hcell
    clear hcell h
    have h1 : (2000 : Int) < (n : Int) := by omega
    have h2 : (2000 : Int) ≤ (c : Int) := by omega
    go_enter Tryd.func24, Tryd.ntmps24
    go_wp2
    go_ret
    refine ⟨w.heap.size, rfl, Nat.le_refl _, ⟨some ⟨g, o, none⟩, 2000, c, 0, by omega, by omega, Blk.new _ _ _, fun _ => ⟨g, o, rfl, hg, fun j hj => ?_⟩⟩, (Ext.refl _).alloc _⟩
    obtain ⟨b, h1, h2⟩ := Hcell.out j (by omega)
    exact ⟨b, h1, ((Ext.refl w).alloc _).cell_some h2⟩
  · have Hh := hide h
    clear h
    have h1 : (n : Int) ≤ 2000 := by omega
    go_enter Tryd.func24, Tryd.ntmps24
    go_wp2
    go_ret
    refine ⟨w.heap.size, rfl, Nat.le_refl _, ⟨A, n, c, 0, by omega, by omega, Blk.new _ _ _, fun h0 => ?_⟩, (Ext.refl _).alloc _⟩
    obtain ⟨g, o, e, hg, hc⟩ := Hh.out h0
    exact ⟨g, o, e, hg, fun j hj => by obtain ⟨b, h1, h2⟩ := hc j hj; exact ⟨b, h1, ((Ext.refl w).alloc _).cell_some h2⟩⟩
end Go.Proofs.YtbifoikcmjmdeaaDoor

namespace Go.Proofs.YtbifoikcmjmdeaaDoor
open Go Go.RowKit
set_option maxHeartbeats 400000

theorem spec_l1Letters (a : Nat) (hs : Sm a) (w : World) :
    Calls Tryd.prog 77 #[.int .i64 a] w (RetNats w (letters a 6)) := by
  go_enter Tryd.func77, Tryd.ntmps77
  go_wp2
  go_loopw [3, 4] (fun v i wr => ∃ k : Nat, k ≤ 6 ∧ i = .int .i64 k ∧ wr.ownsRow w.heap.size 3 1 v (letters a k).length (nats (letters a k)) ∧ Ext w wr)
    (fun _ i _ => 6 - (intOf i).toNat)
  case atStart => exact ⟨0, Nat.zero_le _, rfl, World.ownsRow_lit w #[] 0 (Nat.le_refl _) (by unfold maxLen; omega) rfl, (Ext.refl _).alloc _⟩
  case round =>
    obtain ⟨k, hk, rfl, hown, hext⟩ := hrel
    have hl := letters_length a k
    by_cases hlt : k < 6
    · cases hb : a.testBit k
      all_goals
        have Hb := hide hb
        have hls := letters_succ a k
        rw [hb] at hls
        have Hls := hide hls
        clear hls hb
        go_wp2_with (first
          | (go_at_call 29; refine (spec_l1Has a k hs _ (by omega)).mono ?_; rw [Hb.out]; rintro e w' ⟨rfl, rfl⟩)
          | (at_builtin; refine wpList_push w wr rfl _ _ _ rfl 3 _ 1 8 Tryd.underlying33 info_int rfl (by decide) u3 _ _ _ _ rfl rfl hext hown rfl (cells_int _) (by unfold maxLen; omega) (by omega) ?_; intro v' w1 hext1 hown1 hg1 hat1))
        go_roundw
        case rel => exact ⟨k + 1, by omega, by go_num, by rw [Hls.out]; first | simpa [nats] using hown1 | simpa using hown, by assumption⟩
        case measure => simp [intOf]; omega
    · obtain rfl : k = 6 := by omega
      obtain ⟨A, c, rfl⟩ := own_form hown
      go_wp2
      go_ret
      exact ⟨_, _, rfl, hown, hext⟩

/-- A byte is a letter. -/
def letterB (b : UInt8) : Bool := decide (97 ≤ (b.toNat : Int) ∧ (b.toNat : Int) ≤ 102)
/-- A string is a word. -/
def wordB (s : ByteArray) : Bool := decide (s.size ≤ 50000) && s.data.toList.all letterB
theorem byte_get (s : ByteArray) (i : Nat) (h : i < s.size) : s.data.toList[i]? = some s[i] := by
  rw [List.getElem?_eq_getElem (by simpa using h)]; rfl

/-- Each letter of a string is in an alphabet. -/
def overB (s : ByteArray) (a : Nat) : Bool := s.data.toList.all fun b => hasB a (ltr b.toNat)
theorem over_all {a : Nat} (h : a = 63) (b : UInt8) : hasB a (ltr b.toNat) = letterB b := by
  subst h
  have : b.toNat < 256 := b.toNat_lt
  unfold hasB ltr letterB
  by_cases h1 : (b.toNat : Int) - 97 < 0
  · rw [if_pos (.inl h1)]; simp; omega
  · by_cases h2 : 6 ≤ (b.toNat : Int) - 97
    · rw [if_pos (.inr h2)]; simp; omega
    · rw [if_neg (by omega)]
      have h3 : b.toNat = 97 ∨ b.toNat = 98 ∨ b.toNat = 99 ∨ b.toNat = 100 ∨ b.toNat = 101 ∨ b.toNat = 102 := by omega
      rcases h3 with h | h | h | h | h | h <;> rw [h] <;> decide
theorem overB_63 (s : ByteArray) : overB s 63 = s.data.toList.all letterB := by
  unfold overB
  congr 1
  funext b
  exact over_all rfl b

end Go.Proofs.YtbifoikcmjmdeaaDoor

namespace Go.Proofs.YtbifoikcmjmdeaaDoor
open Go Go.RowKit

/-- There is an edge from i over l to k. -/
def E (es : List Edg) (i l k : Nat) : Prop := ∃ e ∈ es, e.fr = i ∧ e.le = l ∧ e.to = k
/-- The edges from i are answered by those from j, into X; the other way round too, if both. -/
def Ok (both : Bool) (es es' : List Edg) (X : Nat → Nat → Prop) (i j : Nat) : Prop :=
  (∀ l k, E es i l k → ∃ k', E es' j l k' ∧ X k k') ∧ (both = true → ∀ l k', E es' j l k' → ∃ k, E es i l k ∧ X k k')
theorem Ok.mono {both : Bool} {es es' : List Edg} {X Y : Nat → Nat → Prop} {i j : Nat} (h : Ok both es es' X i j) (hXY : ∀ i j, X i j → Y i j) : Ok both es es' Y i j := by
  refine ⟨fun l k hk => ?_, fun hb l k hk => ?_⟩
  · obtain ⟨k', h1, h2⟩ := h.1 l k hk
    exact ⟨k', h1, hXY _ _ h2⟩
  · obtain ⟨k', h1, h2⟩ := h.2 hb l k hk
    exact ⟨k', h1, hXY _ _ h2⟩
/-- A list of sets, as a relation. -/
def rel (R : List Nat) (i j : Nat) : Prop := i < R.length ∧ (R.getD i 0).testBit j = true
/-- A relation between the m and the n states in which the edges answer each other. -/
def Post (both : Bool) (es es' : List Edg) (m n : Nat) (X : Nat → Nat → Prop) : Prop := ∀ i j, X i j → i < m ∧ j < n ∧ Ok both es es' X i j
/-- The sets hold the greatest relation, and are small. -/
structure Inv (both : Bool) (es es' : List Edg) (m n : Nat) (R : List Nat) : Prop where
  len : R.length = m
  small : ∀ r ∈ R, r < 2 ^ n
  great : ∀ X, Post both es es' m n X → ∀ i j, X i j → rel R i j
structure Gfp (both : Bool) (es es' : List Edg) (m n : Nat) (R : List Nat) : Prop extends Inv both es es' m n R where
  post : ∀ i j, rel R i j → Ok both es es' (rel R) i j

theorem rel_lt {both : Bool} {es es' : List Edg} {m n : Nat} {R : List Nat} (h : Inv both es es' m n R) {i j : Nat} (hr : rel R i j) : i < m ∧ j < n := by
  refine ⟨by have := h.len; have := hr.1; omega, ?_⟩
  rcases Nat.lt_or_ge j n with h1 | h1
  · exact h1
  · have hi := hr.1
    have hm := h.small _ (List.getElem_mem hi)
    have := Nat.testBit_lt_two_pow (Nat.lt_of_lt_of_le hm (Nat.pow_le_pow_right (by omega) h1))
    have h2 := hr.2
    rw [List.getD_eq_getElem?_getD, List.getElem?_eq_getElem hi] at h2
    simp [this] at h2

theorem Gfp.unique {both : Bool} {es es' : List Edg} {m n : Nat} {R S : List Nat} (h : Gfp both es es' m n R) (h' : Gfp both es es' m n S) : R = S := by
  have p : Post both es es' m n (rel R) := fun i j hr => ⟨(rel_lt h.toInv hr).1, (rel_lt h.toInv hr).2, h.post i j hr⟩
  have p' : Post both es es' m n (rel S) := fun i j hr => ⟨(rel_lt h'.toInv hr).1, (rel_lt h'.toInv hr).2, h'.post i j hr⟩
  have e : ∀ i j, rel R i j ↔ rel S i j := fun i j => ⟨fun x => h'.great _ p i j x, fun x => h.great _ p' i j x⟩
  apply List.ext_getElem (by rw [h.len, h'.len])
  intro i h1 h2
  apply Nat.eq_of_testBit_eq
  intro j
  have := e i j
  simp only [rel, h1, h2, true_and, List.getD_eq_getElem?_getD, List.getElem?_eq_getElem, Option.getD_some] at this
  exact Bool.eq_iff_iff.2 this

theorem Inv.start (both : Bool) (es es' : List Edg) (m n : Nat) : Inv both es es' m n (List.replicate m (2 ^ n - 1)) where
  len := by simp
  small r hr := by
    have := Nat.two_pow_pos n
    rw [List.eq_of_mem_replicate hr]; omega
  great X hX i j hx := by
    obtain ⟨h1, h2, _⟩ := hX i j hx
    refine ⟨by simpa using h1, ?_⟩
    rw [List.getD_eq_getElem?_getD, List.getElem?_replicate, if_pos h1, Option.getD_some, Nat.testBit_two_pow_sub_one]
    simpa using h2

/-- A set without one number. -/
theorem sub_part (p q r : Nat) (h : 1 ≤ q) : p * q + r - p = p * (q - 1) + r := by
  obtain ⟨d, rfl⟩ : ∃ d, q = d + 1 := ⟨q - 1, by omega⟩
  rw [Nat.mul_add, Nat.mul_one, Nat.add_sub_cancel]
  omega
theorem testBit_part {q r j : Nat} (hq : q % 2 = 1) (hr : r < 2 ^ j) (k : Nat) : (2 ^ j * (q - 1) + r).testBit k = ((2 ^ j * q + r).testBit k && !decide (k = j)) := by
  rw [Nat.testBit_two_pow_mul_add _ hr, Nat.testBit_two_pow_mul_add _ hr]
  by_cases hk : k < j
  · rw [if_pos hk, if_pos hk]
    have : k ≠ j := by omega
    simp [this]
  · rw [if_neg hk, if_neg hk]
    obtain ⟨d, rfl⟩ : ∃ d, k = j + d := ⟨k - j, by omega⟩
    rw [Nat.add_sub_cancel_left]
    cases d with
    | zero => simp [Nat.testBit_zero]; omega
    | succ d =>
      rw [Nat.testBit_succ, Nat.testBit_succ, show (q - 1) / 2 = q / 2 by omega]
      simp
theorem testBit_sub_pow {x j : Nat} (h : x.testBit j = true) (k : Nat) : (x - 2 ^ j).testBit k = (x.testBit k && !decide (k = j)) := by
  have hodd : x / 2 ^ j % 2 = 1 := by
    have := h
    rw [Nat.testBit_eq_decide_div_mod_eq] at this
    simpa using this
  have hdm := Nat.div_add_mod x (2 ^ j)
  have hlt := Nat.mod_lt x (Nat.two_pow_pos j)
  have hq : 1 ≤ x / 2 ^ j := by generalize x / 2 ^ j = q at hodd; omega
  have := testBit_part hodd hlt k
  rw [← sub_part _ _ _ hq, hdm] at this
  exact this

theorem rel_set {R : List Nat} {i j : Nat} (h : rel R i j) (a b : Nat) : rel (R.set i (R.getD i 0 - 2 ^ j)) a b ↔ rel R a b ∧ ¬ (a = i ∧ b = j) := by
  unfold rel
  have h1 := h.1
  have h2 := h.2
  simp only [List.length_set, List.getD_eq_getElem?_getD] at h2 ⊢
  by_cases ha : a = i
  · subst ha
    rw [List.getElem?_set_self h1, Option.getD_some, testBit_sub_pow h2]
    by_cases hb : b = j
    · simp [hb]
    · simp [hb]
  · rw [List.getElem?_set_ne (by omega)]
    simp [ha]

theorem Inv.drop {both : Bool} {es es' : List Edg} {m n : Nat} {R : List Nat} {i j : Nat} (h : Inv both es es' m n R) (hr : rel R i j) (hn : ¬ Ok both es es' (rel R) i j) : Inv both es es' m n (R.set i (R.getD i 0 - 2 ^ j)) where
  len := by rw [List.length_set, h.len]
  small r hm := by
    rcases List.mem_or_eq_of_mem_set hm with h1 | h1
    · exact h.small r h1
    · have hi := hr.1
      have := h.small _ (List.getElem_mem hi)
      rw [h1, List.getD_eq_getElem?_getD, List.getElem?_eq_getElem hi, Option.getD_some]
      exact Nat.lt_of_le_of_lt (Nat.sub_le _ _) this
  great X hX a b hx := by
    rw [rel_set hr]
    refine ⟨h.great X hX a b hx, ?_⟩
    rintro ⟨rfl, rfl⟩
    exact hn ((hX _ _ hx).2.2.mono (h.great X hX))
theorem sum_drop {R : List Nat} {i j : Nat} (hr : rel R i j) : (R.set i (R.getD i 0 - 2 ^ j)).sum + 2 ^ j = R.sum := by
  obtain ⟨hi, hb⟩ := hr
  have hle := Nat.ge_two_pow_of_testBit hb
  induction R generalizing i with
  | nil => simp at hi
  | cons x r ih =>
    cases i with
    | zero => simp at hle ⊢; omega
    | succ i =>
      simp only [List.getD_cons_succ] at hb hle ⊢
      have := ih (by simpa using hi) hb hle
      simp only [List.set_cons_succ, List.sum_cons]
      omega
theorem sum_drop_lt {R : List Nat} {i j : Nat} (hr : rel R i j) : (R.set i (R.getD i 0 - 2 ^ j)).sum < R.sum := by
  have := sum_drop hr
  have := Nat.two_pow_pos j
  omega

/-- The set of the states that a letter leads to. -/
def succ (es : List Edg) (i l : Int) : Nat := es.foldl (fun m e => if e.fr = i ∧ e.le = l then m ||| 2 ^ e.to.toNat else m) 0
theorem succ_snoc (es : List Edg) (e : Edg) (i l : Int) : succ (es ++ [e]) i l = if e.fr = i ∧ e.le = l then succ es i l ||| 2 ^ e.to.toNat else succ es i l := by
  simp [succ]
end Go.Proofs.YtbifoikcmjmdeaaDoor

namespace Go.Proofs.YtbifoikcmjmdeaaDoor
open Go Go.RowKit
set_option maxHeartbeats 1000000

theorem and_pred (k m : Nat) : (2 ^ k * (2 * m + 1)) &&& (2 ^ k * (2 * m + 1) - 1) = 2 ^ k * (2 * m) := by
  have hp := Nat.two_pow_pos k
  have e : 2 ^ k * (2 * m + 1) - 1 = 2 ^ k * (2 * m) + (2 ^ k - 1) := by rw [Nat.mul_add, Nat.mul_one]; omega
  rw [e]
  apply Nat.eq_of_testBit_eq
  intro i
  have e0 : ∀ q, (2 ^ k * q).testBit i = if i < k then false else q.testBit (i - k) := fun q => by
    have := Nat.testBit_two_pow_mul_add q (b := 0) (i := k) hp i
    rw [Nat.add_zero] at this
    rw [this, Nat.zero_testBit]
  rw [Nat.testBit_and, e0, Nat.testBit_two_pow_mul_add _ (by omega), e0]
  by_cases hi : i < k
  · simp [hi]
  · simp only [hi, if_false]
    cases hd : i - k with
    | zero => simp [Nat.testBit_zero]
    | succ d => rw [Nat.testBit_succ, Nat.testBit_succ, show (2 * m + 1) / 2 = m by omega, show (2 * m) / 2 = m by omega]; simp
/-- The lowest number of a set: what lies below is not in it; taken away, the rest stays. -/
theorem lowest {x : Nat} (h0 : x ≠ 0) (hs : Sm x) : ∃ k, Lib.ctz 64 x = k ∧ k < 32 ∧ x.testBit k = true ∧ (∀ i, i < k → x.testBit i = false) ∧ x &&& (x - 1) = x - 2 ^ k ∧ 2 ^ k ≤ x := by
  have hx := hs.lt
  obtain ⟨m, hm, hk⟩ := Lib.ctzFrom_spec 64 x (by omega) (by omega)
  have e : Lib.ctz 64 x = Lib.ctzFrom 64 x := by simp [Lib.ctz, h0]
  generalize Lib.ctzFrom 64 x = k at *
  have hp := Nat.two_pow_pos k
  have hle : 2 ^ k ≤ x := by rw [hm]; exact Nat.le_mul_of_pos_right _ (by omega)
  have e0 : ∀ q i, (2 ^ k * q).testBit i = if i < k then false else q.testBit (i - k) := fun q i => by
    have := Nat.testBit_two_pow_mul_add q (b := 0) (i := k) hp i
    rw [Nat.add_zero] at this
    rw [this, Nat.zero_testBit]
  refine ⟨k, e, ?_, ?_, fun i hi => ?_, ?_, hle⟩
  · apply Nat.lt_of_not_le
    intro h32
    have := Nat.pow_le_pow_right (n := 2) (by omega) h32
    omega
  · rw [hm, e0]; simp
  · rw [hm, e0]; simp [hi]
  · rw [hm, and_pred, Nat.mul_add, Nat.mul_one, Nat.add_sub_cancel]
theorem testBit_sub_low {x j : Nat} (h : x.testBit j = true) (hl : ∀ i, i < j → x.testBit i = false) (k : Nat) : (x - 2 ^ j).testBit k = (x.testBit k && !decide (k = j)) := by
  have hodd : x / 2 ^ j % 2 = 1 := by
    have := h
    rw [Nat.testBit_eq_decide_div_mod_eq] at this
    simpa using this
  have hp := Nat.two_pow_pos j
  have hr : x % 2 ^ j = 0 := by
    apply Nat.eq_of_testBit_eq
    intro i
    rw [Nat.testBit_mod_two_pow, Nat.zero_testBit]
    by_cases hi : i < j
    · simp [hi, hl i hi]
    · simp [hi]
  have hdm := Nat.div_add_mod x (2 ^ j)
  rw [hr, Nat.add_zero] at hdm
  generalize x / 2 ^ j = q at *
  have e0 : ∀ q i, (2 ^ j * q).testBit i = if i < j then false else q.testBit (i - j) := fun q i => by
    have := Nat.testBit_two_pow_mul_add q (b := 0) (i := j) hp i
    rw [Nat.add_zero] at this
    rw [this, Nat.zero_testBit]
  have e : x - 2 ^ j = 2 ^ j * (q - 1) := by rw [← hdm, Nat.mul_sub, Nat.mul_one]
  rw [e, ← hdm, e0, e0]
  by_cases hk : k < j
  · simp [hk]
  · simp only [hk, if_false]
    obtain ⟨d, rfl⟩ : ∃ d, k = j + d := ⟨k - j, by omega⟩
    rw [Nat.add_sub_cancel_left]
    cases d with
    | zero => simp [Nat.testBit_zero]; omega
    | succ d =>
      rw [Nat.testBit_succ, Nat.testBit_succ, show (q - 1) / 2 = q / 2 by omega]
      simp
theorem letters_low {x k : Nat} (h : x.testBit k = true) (hl : ∀ i, i < k → x.testBit i = false) : ∀ n, (n ≤ k → letters x n = [] ∧ letters (x - 2 ^ k) n = []) ∧ (k < n → letters x n = k :: letters (x - 2 ^ k) n)
  | 0 => ⟨fun _ => ⟨rfl, rfl⟩, fun h => by omega⟩
  | n + 1 => by
    have ih := letters_low h hl n
    have hb := testBit_sub_low h hl n
    rw [letters_succ, letters_succ, hb]
    refine ⟨fun hn => ?_, fun hn => ?_⟩
    · obtain ⟨e1, e2⟩ := ih.1 (by omega)
      rw [e1, e2, hl n (by omega)]
      simp
    · rcases Nat.lt_or_ge k n with h1 | h1
      · rw [ih.2 h1]
        have : n ≠ k := by omega
        simp [this]
      · obtain ⟨e1, e2⟩ := ih.1 h1
        obtain rfl : n = k := by omega
        rw [e1, e2, h]
        simp
theorem letters_step {x : Nat} (h0 : x ≠ 0) (hs : Sm x) : letters x 32 = Lib.ctz 64 x :: letters (x &&& (x - 1)) 32 ∧ x &&& (x - 1) < x ∧ Lib.ctz 64 x < 32 := by
  obtain ⟨k, e, hk, hb, hl, ha, hle⟩ := lowest h0 hs
  have hp := Nat.two_pow_pos k
  rw [e, ha]
  exact ⟨(letters_low hb hl 32).2 hk, by omega, hk⟩

theorem impl_members (a : Nat) (hs : Sm a) (w : World) (hT : Tab w) :
    Calls Tryd.prog 51 #[.int .i64 a] w (RetNats w (letters a 32)) := by
  have hlen := letters_length a 32
  go_enter Tryd.func51, Tryd.ntmps51
  go_wp2
  go_loopw [0, 3, 4] (fun s v _ wr => ∃ x : Nat, s = .int .i64 x ∧ Sm x ∧ ∃ o : List Nat, Hid (letters a 32 = o ++ letters x 32) ∧ wr.ownsRow w.heap.size 3 1 v o.length (nats o) ∧ Ext w wr)
    (fun s _ _ _ => (intOf s).toNat)
  case atStart => exact ⟨a, rfl, hs, [], rfl, World.ownsRow_nil _ _ _ _, Ext.refl _⟩
  case round =>
    obtain ⟨x, rfl, hx, o, ho, hown, hext⟩ := hrel
    have hx' := hx.lt
    have hol : o.length + (letters x 32).length ≤ 32 := by have := ho.out; rw [this, List.length_append] at hlen; exact hlen
    by_cases h0 : x = 0
    · subst h0
      obtain ⟨A, c, rfl⟩ := own_form hown
      go_wp2
      go_ret
      have hl0 := ho.out
      rw [show letters 0 32 = [] by decide, List.append_nil] at hl0
      exact ⟨A, c, by rw [hl0]; rfl, by rw [hl0]; exact hown, hext⟩
    · obtain ⟨hl, hlt, hc⟩ := letters_step h0 hx
      have Hl := hide hl
      have hne : ((x : Int) != 0) = true := by simp; omega
      have hT' := hT.ext hext
      have hb := hide (bits_and (a := x) (b := x - 1) hx (by unfold Sm; omega))
      have hol' : o.length < 32 := by rw [hl] at hol; simp at hol; omega
      clear hl hlen hol
      have hi := hide (show ((x : Int) - 1) = ((x - 1 : Nat) : Int) by omega)
      go_wp2_with (first
        | (go_at_call 79; refine (tz x (by omega) h0 _ hT').mono ?_; rintro e w' ⟨rfl, rfl⟩)
        | (at_builtin; refine wpList_push w wr rfl (.tmp 10) (.tmp 14) _ rfl 3 _ 1 8 Tryd.underlying33 info_int rfl (by decide) u3 _ _ _ _ rfl rfl hext hown rfl (cells_int _) (by unfold maxLen; omega) (by omega) ?_; intro v' w1 hext1 hown1 hg1 hat1))
      go_roundw
      case rel => exact ⟨x &&& (x - 1), by rw [hi.out, hb.out], Nat.lt_of_le_of_lt Nat.and_le_left hx, o ++ [Lib.ctz 64 x], by have := ho.out; unfold Hid; rw [this, Hl.out]; simp, by simpa [nats] using hown1, by assumption⟩
      case measure =>
        have := hb.out
        rw [← hi.out] at this
        simp [intOf]
        omega
end Go.Proofs.YtbifoikcmjmdeaaDoor

namespace Go.Proofs.YtbifoikcmjmdeaaDoor
open Go Go.RowKit

theorem foldl_bit (es : List Edg) (p : Edg → Prop) [DecidablePred p] (m k : Nat) : (es.foldl (fun m e => if p e then m ||| 2 ^ e.to.toNat else m) m).testBit k = true ↔ m.testBit k = true ∨ ∃ e ∈ es, p e ∧ e.to.toNat = k := by
  induction es generalizing m with
  | nil => simp
  | cons e r ih =>
    rw [List.foldl_cons, ih]
    by_cases hp : p e
    · rw [if_pos hp, Nat.testBit_or, Nat.testBit_two_pow]
      simp only [Bool.or_eq_true, decide_eq_true_eq, List.mem_cons]
      constructor
      · rintro ((h | h) | ⟨e', h1, h2⟩)
        · exact Or.inl h
        · exact Or.inr ⟨e, Or.inl rfl, hp, h⟩
        · exact Or.inr ⟨e', Or.inr h1, h2⟩
      · rintro (h | ⟨e', h1 | h1, h2⟩)
        · exact Or.inl (Or.inl h)
        · subst h1; exact Or.inl (Or.inr h2.2)
        · exact Or.inr ⟨e', h1, h2⟩
    · rw [if_neg hp]
      constructor
      · rintro (h | ⟨e', h1, h2⟩)
        · exact Or.inl h
        · exact Or.inr ⟨e', List.mem_cons_of_mem _ h1, h2⟩
      · rintro (h | ⟨e', h1, h2⟩)
        · exact Or.inl h
        · rcases List.mem_cons.1 h1 with h1 | h1
          · subst h1; exact absurd h2.1 hp
          · exact Or.inr ⟨e', h1, h2⟩
theorem succ_bit (es : List Edg) (i l : Int) (k : Nat) : (succ es i l).testBit k = true ↔ ∃ e ∈ es, (e.fr = i ∧ e.le = l) ∧ e.to.toNat = k := by
  have := foldl_bit es (fun e => e.fr = i ∧ e.le = l) 0 k
  simpa [succ] using this
/-- Edges between few states. -/
def Few (n : Nat) (es : List Edg) : Prop := ∀ e ∈ es, (0 ≤ e.fr ∧ e.fr < n) ∧ (0 ≤ e.le ∧ e.le < 6) ∧ (0 ≤ e.to ∧ e.to < n)
theorem E_iff {n : Nat} {es : List Edg} (h : Few n es) (i l k : Nat) : E es i l k ↔ (succ es i l).testBit k = true := by
  rw [succ_bit]
  constructor
  · rintro ⟨e, he, h1, h2, h3⟩
    exact ⟨e, he, ⟨h1, h2⟩, by omega⟩
  · rintro ⟨e, he, ⟨h1, h2⟩, h3⟩
    have := h e he
    exact ⟨e, he, h1, h2, by omega⟩
theorem succ_lt {n : Nat} {es : List Edg} (h : Few n es) (i l : Int) : succ es i l < 2 ^ n := by
  apply Nat.lt_pow_two_of_testBit
  intro k hk
  rw [Bool.eq_false_iff]
  intro hb
  obtain ⟨e, he, _, h3⟩ := (succ_bit es i l k).1 hb
  have := h e he
  omega
theorem succ_sm {n : Nat} {es : List Edg} (h : Few n es) (hn : n ≤ 16) (i l : Int) : Sm (succ es i l) :=
  Nat.lt_of_lt_of_le (succ_lt h i l) (by rw [show (4294967296 : Nat) = 2 ^ 32 from rfl]; exact Nat.pow_le_pow_right (by omega) (by omega))

/-- The numbers of one set and not of another. -/
def diff (a b : Nat) : Nat := a ^^^ (a &&& b)
theorem diff_bit (a b k : Nat) : (diff a b).testBit k = (a.testBit k && !b.testBit k) := by
  unfold diff
  rw [Nat.testBit_xor, Nat.testBit_and]
  cases a.testBit k <;> cases b.testBit k <;> rfl
theorem diff_le (a b : Nat) : diff a b ≤ a := by
  apply Nat.le_of_testBit
  intro k hk
  rw [diff_bit] at hk
  simp at hk
  exact hk.1
theorem ne_zero_bit {a : Nat} : a ≠ 0 ↔ ∃ k, a.testBit k = true := by
  constructor
  · intro h
    exact Nat.exists_testBit_of_ne_zero h
  · rintro ⟨k, hk⟩ rfl
    simp at hk
/-- All sets of these states together. -/
def orAll (R : List Nat) (ks : List Nat) : Nat := ks.foldl (fun m k => m ||| R.getD k 0) 0
theorem orAll_snoc (R ks : List Nat) (k : Nat) : orAll R (ks ++ [k]) = orAll R ks ||| R.getD k 0 := by simp [orAll]
theorem orAll_bit (R ks : List Nat) (j : Nat) : (orAll R ks).testBit j = true ↔ ∃ k ∈ ks, (R.getD k 0).testBit j = true := by
  have : ∀ m, (ks.foldl (fun m k => m ||| R.getD k 0) m).testBit j = true ↔ m.testBit j = true ∨ ∃ k ∈ ks, (R.getD k 0).testBit j = true := by
    induction ks with
    | nil => simp
    | cons x r ih =>
      intro m
      rw [List.foldl_cons, ih, Nat.testBit_or]
      simp only [Bool.or_eq_true, List.mem_cons, exists_eq_or_imp]
      exact or_assoc
  simpa [orAll] using this 0
theorem mem_letters {a n k : Nat} : k ∈ letters a n ↔ k < n ∧ a.testBit k = true := by simp [letters]
/-- One letter: the edges from i are answered by those from j. -/
def ansL (both : Bool) (es es' : List Edg) (R : List Nat) (i j l : Nat) : Bool :=
  (letters (succ es i l) 32).all (fun k => !(R.getD k 0 &&& succ es' j l == 0)) && !(both && diff (succ es' j l) (orAll R (letters (succ es i l) 32)) != 0)
def ansB (both : Bool) (es es' : List Edg) (R : List Nat) (i j : Nat) : Bool := (List.range 6).all (ansL both es es' R i j)

theorem rel_getD {R : List Nat} {k j : Nat} (h : (R.getD k 0).testBit j = true) : rel R k j := by
  refine ⟨?_, h⟩
  rcases Nat.lt_or_ge k R.length with h1 | h1
  · exact h1
  · rw [List.getD_eq_getElem?_getD, List.getElem?_eq_none h1] at h
    simp at h
theorem ansB_iff {both : Bool} {m n : Nat} {es es' : List Edg} {R : List Nat} {i j : Nat} (h : Few m es) (h' : Few n es') (hm : m ≤ 16) : ansB both es es' R i j = true ↔ Ok both es es' (rel R) i j := by
  unfold ansB ansL
  simp only [List.all_eq_true, List.mem_range, Bool.and_eq_true, Bool.not_eq_true', mem_letters]
  have hk32 : ∀ {l k : Nat}, (succ es i l).testBit k = true → k < 32 := fun {l k} hk => by
    obtain ⟨e, he, _, h3⟩ := (succ_bit es i l k).1 hk
    have := h e he
    omega
  have hl6 : ∀ {i l k : Nat}, E es i l k → l < 6 := fun {i l k} hk => by
    obtain ⟨e, he, _, h3, _⟩ := hk
    have := h e he
    omega
  have hl6' : ∀ {i l k : Nat}, E es' i l k → l < 6 := fun {i l k} hk => by
    obtain ⟨e, he, _, h3, _⟩ := hk
    have := h' e he
    omega
  constructor
  · intro hA
    refine ⟨fun l k hk => ?_, fun hb l k' hk' => ?_⟩
    · have hk1 := (E_iff h i l k).1 hk
      have h1 := (hA l (hl6 hk)).1 k ⟨hk32 hk1, hk1⟩
      have h2 : R.getD k 0 &&& succ es' j l ≠ 0 := by simpa using h1
      obtain ⟨k', hk'⟩ := ne_zero_bit.1 h2
      rw [Nat.testBit_and, Bool.and_eq_true] at hk'
      exact ⟨k', (E_iff h' j l k').2 hk'.2, rel_getD hk'.1⟩
    · have h1 := (hA l (hl6' hk')).2
      rw [hb, Bool.true_and] at h1
      have h2 : diff (succ es' j l) (orAll R (letters (succ es i l) 32)) = 0 := by simpa using h1
      have h3 := diff_bit (succ es' j l) (orAll R (letters (succ es i l) 32)) k'
      rw [h2, (E_iff h' j l k').1 hk'] at h3
      simp at h3
      obtain ⟨k, hk, hr⟩ := (orAll_bit _ _ _).1 h3
      exact ⟨k, (E_iff h i l k).2 (mem_letters.1 hk).2, rel_getD hr⟩
  · rintro ⟨h1, h2⟩ l hl
    refine ⟨fun k hk => ?_, ?_⟩
    · obtain ⟨k', hk', hr⟩ := h1 l k ((E_iff h i l k).2 hk.2)
      have : R.getD k 0 &&& succ es' j l ≠ 0 := ne_zero_bit.2 ⟨k', by rw [Nat.testBit_and, hr.2, (E_iff h' j l k').1 hk']; rfl⟩
      simpa using this
    · cases hb : both
      · rfl
      · rw [Bool.true_and]
        have : diff (succ es' j l) (orAll R (letters (succ es i l) 32)) = 0 := by
          apply Classical.byContradiction
          intro hne
          obtain ⟨k', hk'⟩ := ne_zero_bit.1 hne
          rw [diff_bit, Bool.and_eq_true] at hk'
          obtain ⟨k, hk, hr⟩ := h2 hb l k' ((E_iff h' j l k').2 hk'.1)
          have hk1 := (E_iff h i l k).1 hk
          have := (orAll_bit R (letters (succ es i l) 32) k').2 ⟨k, mem_letters.2 ⟨hk32 hk1, hk1⟩, hr.2⟩
          rw [this] at hk'
          simp at hk'
        rw [this]; rfl
end Go.Proofs.YtbifoikcmjmdeaaDoor

namespace Go.Proofs.YtbifoikcmjmdeaaDoor
open Go Go.RowKit
set_option maxHeartbeats 2000000

theorem Reads.nat {w : World} {lo hi n k : Nat} {A : Option Addr} {l : List Nat} (h : Reads w lo hi 1 A n (nats l)) (hk : k < n) : ∃ ad x, A = some ad ∧ lo ≤ ad.block ∧ ad.block < hi ∧ Hid (l[k]? = some x) ∧ w.cell? (ad.add k) = some (.int .i64 (x : Nat)) := by
  have e : nats l = ints (l.map fun n : Nat => (n : Int)) := by simp [nats, ints]
  rw [e] at h
  obtain ⟨ad, x, ha, hl, hh, hx, hc⟩ := h.int hk
  have hx' := hx.out
  rw [List.getElem?_map] at hx'
  cases hq : l[k]? with
  | none => rw [hq] at hx'; simp at hx'
  | some q =>
    rw [hq] at hx'
    simp at hx'
    exact ⟨ad, q, ha, hl, hh, rfl, by rw [hc, hx']⟩

/-- The block b holds the moves of these edges. -/
def MovAt (w : World) (b : Nat) (es : List Edg) : Prop := ∀ i l : Nat, i < 16 → l < 6 → w.cell? ⟨b, i * 6 + l, none⟩ = some (.int .i64 (succ es i l : Nat))
theorem MovAt.ext {w w' : World} {b : Nat} {es : List Edg} (h : MovAt w b es) (hb : Ext w w') : MovAt w' b es := fun i l hi hl => hb.cell_some (h i l hi hl)

theorem bits_andNot {a b : Nat} (ha : Sm a) (hb : Sm b) : bits .andNot .i64 (a : Int) (b : Int) = (diff a b : Nat) := by
  have h1 := ha.lt; have h2 := hb.lt
  have hd := diff_le a b
  show IntKind.i64.wrap ((BitVec.ofInt 64 (a : Int) &&& ~~~ BitVec.ofInt 64 (b : Int)).toNat : Int) = _
  have e : (BitVec.ofInt 64 (a : Int) &&& ~~~ BitVec.ofInt 64 (b : Int)).toNat = diff a b := by
    apply Nat.eq_of_testBit_eq
    intro k
    rw [diff_bit, BitVec.toNat_and, Nat.testBit_and, i64_toNat a (by omega), BitVec.testBit_toNat, BitVec.getLsbD_not, ← BitVec.testBit_toNat, i64_toNat b (by omega)]
    by_cases hk : k < 64
    · simp [hk]
    · simp only [hk, decide_false, Bool.false_and, Bool.and_false]
      rw [testBit_small ha (by omega)]; rfl
  rw [e, IntKind.wrap_i64]
  omega

theorem impl_answers_f {es es' : List Edg} {bm bn lo hi n c i j k1 k2 : Nat} {A : Option Addr} {R : List Nat} {w : World} (hm : MovAt w bm es) (hn : MovAt w bn es') (hR : Reads w lo hi 1 A n (nats R)) (hs : ∀ r ∈ R, Sm r) (hT : Tab w)
    (hi : i < 16) (hj : j < 16) (h : Few k1 es) (h' : Few k2 es') (hk1 : k1 ≤ 16) (hk2 : k2 ≤ 16) (hl : k1 ≤ R.length) :
    Calls Tryd.prog 52 #[.pointer (some ⟨bm, 0, none⟩), .pointer (some ⟨bn, 0, none⟩), .slice A n c, .int .i64 i, .int .i64 j, .bool false] w fun e w' => e = .returned (.bool (ansB false es es' R i j)) ∧ Ext w w' := by
  have hlen := hide (show R.length = n by have := hR.length; rw [nats_length] at this; omega)
  have hA := hide (show ansB false es es' R i j = (List.range 6).all (ansL false es es' R i j) from rfl)
  have Hs := hide hs
  clear hs
  have hn' := hR.len
  go_enter Tryd.func52, Tryd.ntmps52
  go_wp2
  go_loopw [17] (fun v wr => ∃ l : Nat, l ≤ 6 ∧ v = .int .i64 l ∧ Hid ((List.range l).all (ansL false es es' R i j) = true) ∧ Ext w wr) (fun v _ => 6 - (intOf v).toNat)
  case atStart => exact ⟨0, Nat.zero_le _, rfl, rfl, Ext.refl _⟩
  case round =>
    obtain ⟨l, hl6, rfl, hall, hext⟩ := hrel
    by_cases hlt : l < 6
    · have c1 := (hm.ext hext) i l hi hlt
      have c2 := (hn.ext hext) j l hj hlt
      have s1 := succ_sm h hk1 i l
      have s2 := succ_sm h' hk2 j l
      have hT' := hT.ext hext
      go_wp2_with (go_at_call 51; refine (impl_members _ s1 _ hT').mono ?_; rintro e w1 ⟨B, d, rfl, hown, hx1⟩)
      have hkL := letters_length (succ es i l) 32
      have hkm : ∀ k, k ∈ letters (succ es i l) 32 → k < R.length := fun k hk => by
        obtain ⟨e, he, _, h3⟩ := (succ_bit es i l k).1 (mem_letters.1 hk).2
        have := h e he
        omega
      have Hkm := hide hkm
      clear hkm
      have hL := hide (show ansL false es es' R i j l = ((letters (succ es i l) 32).all (fun k => !(R.getD k 0 &&& succ es' j l == 0)) && !(false && diff (succ es' j l) (orAll R (letters (succ es i l) 32)) != 0)) from rfl)
      have hext1 := hext.trans hx1
      have hrd := hown
      replace hrd := Reads.of_own hrd
      clear hown
      generalize letters (succ es i l) 32 = ks at *
      go_loopw [14, 29] (fun v q wr => ∃ x : Nat, x ≤ ks.length ∧ q = .int .i64 x ∧ ∃ y : Nat, v = .int .i64 y ∧ Sm y ∧ Hid (y = orAll R (ks.take x)) ∧ Hid ((ks.take x).all (fun k => !(R.getD k 0 &&& succ es' j l == 0)) = true) ∧ Ext w1 wr) (fun _ q _ => ks.length - (intOf q).toNat)
      case atStart => exact ⟨0, Nat.zero_le _, rfl, 0, rfl, by unfold Sm; omega, rfl, rfl, Ext.refl _⟩
      case round =>
        obtain ⟨x, hxl, rfl, y, rfl, hy, hyo, hya, hext2⟩ := hrel
        have hw2 := hext1.trans hext2
        have d2 := hext2.cell_some (hx1.cell_some c2)
        by_cases hlx : x < ks.length
        · obtain ⟨ad, k, rfl, _, _, hk, hkc⟩ := (hrd.ext hext2).nat hlx
          have hkn : k < n := by have := Hkm.out k (List.mem_of_getElem? hk.out); have := hlen.out; omega
          obtain ⟨ad', r, rfl, _, _, hr, hrc⟩ := (hR.ext hw2).nat hkn
          have hrs := Hs.out r (List.mem_of_getElem? hr.out)
          have ba := hide (bits_and hrs s2)
          have bo := hide (bits_or hy hrs)
          have hrd' : R.getD k 0 = r := by rw [List.getD_eq_getElem?_getD, hr.out]; rfl
          have Hrd := hide hrd'
          clear hrd'
          have htk := hide (show ks.take (x + 1) = ks.take x ++ [k] by rw [List.take_add_one, hk.out]; rfl)
          by_cases hz : r &&& succ es' j l = 0
          · have hz' : (bits .and .i64 (r : Int) (succ es' j l : Nat) == 0) = true := by rw [ba.out, hz]; rfl
            have Hz := hide hz
            clear hz
            go_wp2
            go_quiet (fail)
            go_wp2
            go_ret
            refine ⟨ret_bool ?_, hw2.drewN _⟩
            have hno : ansL false es es' R i j l = false := by
              rw [hL.out, show ks.all (fun k => !(R.getD k 0 &&& succ es' j l == 0)) = false from ?_]
              · rfl
              · rw [Bool.eq_false_iff]
                intro hc
                have := List.all_eq_true.1 hc k (List.mem_of_getElem? hk.out)
                rw [Hrd.out, Hz.out] at this
                simp at this
            rw [hA.out]
            refine (Bool.eq_false_iff.2 fun hc => ?_).symm
            have := List.all_eq_true.1 hc l (List.mem_range.2 hlt)
            rw [hno] at this
            simp at this
          · have hz' : (bits .and .i64 (r : Int) (succ es' j l : Nat) == 0) = false := by rw [ba.out]; simp; omega
            have Hz := hide hz
            clear hz
            go_wp2
            go_quiet (fail)
            have e1 := (Ext.refl wr).drewN 1
            go_wp2
            go_roundw
            case rel => exact ⟨x + 1, by omega, by go_num, y ||| r, by rw [bo.out], hy.or hrs, by unfold Hid; rw [htk.out, orAll_snoc, ← hyo.out, Hrd.out], by
              have hf : (R.getD k 0 &&& succ es' j l == 0) = false := by rw [Hrd.out]; simpa using Hz.out
              unfold Hid
              rw [htk.out, List.all_append, hya.out]
              simp only [List.all_cons, List.all_nil, hf]; rfl, hext2.drewN _⟩
            case measure => simp [intOf]; omega
        · obtain rfl : x = ks.length := by omega
          rw [List.take_length] at hyo hya
          have bd := hide (bits_andNot s2 hy)
          have hLL := hide (show ansL false es es' R i j l = !(false && diff (succ es' j l) y != 0) by rw [hL.out, hya.out, Bool.true_and, ← hyo.out])
          have hz : (false && diff (succ es' j l) y != 0) = false := rfl
          have hrel : Hid ((List.range (l + 1)).all (ansL false es es' R i j) = true) := by
            unfold Hid
            rw [List.range_succ, List.all_append, hall.out]
            simp only [List.all_cons, List.all_nil, Bool.and_true, Bool.true_and]
            rw [hLL.out, hz]; rfl
          clear hz
          go_wp2
          go_roundw
          case rel => exact ⟨l + 1, by omega, by go_num, hrel, hw2⟩
          case measure => simp [intOf]; omega
    · obtain rfl : l = 6 := by omega
      go_wp2
      go_ret
      exact ⟨ret_bool (by rw [hA.out, hall.out]), hext⟩

theorem impl_answers_t {es es' : List Edg} {bm bn lo hi n c i j k1 k2 : Nat} {A : Option Addr} {R : List Nat} {w : World} (hm : MovAt w bm es) (hn : MovAt w bn es') (hR : Reads w lo hi 1 A n (nats R)) (hs : ∀ r ∈ R, Sm r) (hT : Tab w)
    (hi : i < 16) (hj : j < 16) (h : Few k1 es) (h' : Few k2 es') (hk1 : k1 ≤ 16) (hk2 : k2 ≤ 16) (hl : k1 ≤ R.length) :
    Calls Tryd.prog 52 #[.pointer (some ⟨bm, 0, none⟩), .pointer (some ⟨bn, 0, none⟩), .slice A n c, .int .i64 i, .int .i64 j, .bool true] w fun e w' => e = .returned (.bool (ansB true es es' R i j)) ∧ Ext w w' := by
  have hlen := hide (show R.length = n by have := hR.length; rw [nats_length] at this; omega)
  have hA := hide (show ansB true es es' R i j = (List.range 6).all (ansL true es es' R i j) from rfl)
  have Hs := hide hs
  clear hs
  have hn' := hR.len
  go_enter Tryd.func52, Tryd.ntmps52
  go_wp2
  go_loopw [17] (fun v wr => ∃ l : Nat, l ≤ 6 ∧ v = .int .i64 l ∧ Hid ((List.range l).all (ansL true es es' R i j) = true) ∧ Ext w wr) (fun v _ => 6 - (intOf v).toNat)
  case atStart => exact ⟨0, Nat.zero_le _, rfl, rfl, Ext.refl _⟩
  case round =>
    obtain ⟨l, hl6, rfl, hall, hext⟩ := hrel
    by_cases hlt : l < 6
    · have c1 := (hm.ext hext) i l hi hlt
      have c2 := (hn.ext hext) j l hj hlt
      have s1 := succ_sm h hk1 i l
      have s2 := succ_sm h' hk2 j l
      have hT' := hT.ext hext
      go_wp2_with (go_at_call 51; refine (impl_members _ s1 _ hT').mono ?_; rintro e w1 ⟨B, d, rfl, hown, hx1⟩)
      have hkL := letters_length (succ es i l) 32
      have hkm : ∀ k, k ∈ letters (succ es i l) 32 → k < R.length := fun k hk => by
        obtain ⟨e, he, _, h3⟩ := (succ_bit es i l k).1 (mem_letters.1 hk).2
        have := h e he
        omega
      have Hkm := hide hkm
      clear hkm
      have hL := hide (show ansL true es es' R i j l = ((letters (succ es i l) 32).all (fun k => !(R.getD k 0 &&& succ es' j l == 0)) && !(true && diff (succ es' j l) (orAll R (letters (succ es i l) 32)) != 0)) from rfl)
      have hext1 := hext.trans hx1
      have hrd := hown
      replace hrd := Reads.of_own hrd
      clear hown
      generalize letters (succ es i l) 32 = ks at *
      go_loopw [14, 29] (fun v q wr => ∃ x : Nat, x ≤ ks.length ∧ q = .int .i64 x ∧ ∃ y : Nat, v = .int .i64 y ∧ Sm y ∧ Hid (y = orAll R (ks.take x)) ∧ Hid ((ks.take x).all (fun k => !(R.getD k 0 &&& succ es' j l == 0)) = true) ∧ Ext w1 wr) (fun _ q _ => ks.length - (intOf q).toNat)
      case atStart => exact ⟨0, Nat.zero_le _, rfl, 0, rfl, by unfold Sm; omega, rfl, rfl, Ext.refl _⟩
      case round =>
        obtain ⟨x, hxl, rfl, y, rfl, hy, hyo, hya, hext2⟩ := hrel
        have hw2 := hext1.trans hext2
        have d2 := hext2.cell_some (hx1.cell_some c2)
        by_cases hlx : x < ks.length
        · obtain ⟨ad, k, rfl, _, _, hk, hkc⟩ := (hrd.ext hext2).nat hlx
          have hkn : k < n := by have := Hkm.out k (List.mem_of_getElem? hk.out); have := hlen.out; omega
          obtain ⟨ad', r, rfl, _, _, hr, hrc⟩ := (hR.ext hw2).nat hkn
          have hrs := Hs.out r (List.mem_of_getElem? hr.out)
          have ba := hide (bits_and hrs s2)
          have bo := hide (bits_or hy hrs)
          have hrd' : R.getD k 0 = r := by rw [List.getD_eq_getElem?_getD, hr.out]; rfl
          have Hrd := hide hrd'
          clear hrd'
          have htk := hide (show ks.take (x + 1) = ks.take x ++ [k] by rw [List.take_add_one, hk.out]; rfl)
          by_cases hz : r &&& succ es' j l = 0
          · have hz' : (bits .and .i64 (r : Int) (succ es' j l : Nat) == 0) = true := by rw [ba.out, hz]; rfl
            have Hz := hide hz
            clear hz
            go_wp2
            go_quiet (fail)
            go_wp2
            go_ret
            refine ⟨ret_bool ?_, hw2.drewN _⟩
            have hno : ansL true es es' R i j l = false := by
              rw [hL.out, show ks.all (fun k => !(R.getD k 0 &&& succ es' j l == 0)) = false from ?_]
              · rfl
              · rw [Bool.eq_false_iff]
                intro hc
                have := List.all_eq_true.1 hc k (List.mem_of_getElem? hk.out)
                rw [Hrd.out, Hz.out] at this
                simp at this
            rw [hA.out]
            refine (Bool.eq_false_iff.2 fun hc => ?_).symm
            have := List.all_eq_true.1 hc l (List.mem_range.2 hlt)
            rw [hno] at this
            simp at this
          · have hz' : (bits .and .i64 (r : Int) (succ es' j l : Nat) == 0) = false := by rw [ba.out]; simp; omega
            have Hz := hide hz
            clear hz
            go_wp2
            go_quiet (fail)
            have e1 := (Ext.refl wr).drewN 1
            go_wp2
            go_roundw
            case rel => exact ⟨x + 1, by omega, by go_num, y ||| r, by rw [bo.out], hy.or hrs, by unfold Hid; rw [htk.out, orAll_snoc, ← hyo.out, Hrd.out], by
              have hf : (R.getD k 0 &&& succ es' j l == 0) = false := by rw [Hrd.out]; simpa using Hz.out
              unfold Hid
              rw [htk.out, List.all_append, hya.out]
              simp only [List.all_cons, List.all_nil, hf]; rfl, hext2.drewN _⟩
            case measure => simp [intOf]; omega
        · obtain rfl : x = ks.length := by omega
          rw [List.take_length] at hyo hya
          have bd := hide (bits_andNot s2 hy)
          have hLL := hide (show ansL true es es' R i j l = !(true && diff (succ es' j l) y != 0) by rw [hL.out, hya.out, Bool.true_and, ← hyo.out])
          by_cases hd : diff (succ es' j l) y = 0
          · have hz : (true && diff (succ es' j l) y != 0) = false := by rw [hd]; rfl
            have hz2 : (bits .andNot .i64 (succ es' j l : Nat) (y : Nat) != 0) = false := by rw [bd.out, hd]; rfl
            have hrel : Hid ((List.range (l + 1)).all (ansL true es es' R i j) = true) := by
              unfold Hid
              rw [List.range_succ, List.all_append, hall.out]
              simp only [List.all_cons, List.all_nil, Bool.and_true, Bool.true_and]
              rw [hLL.out, hz]; rfl
            clear hz hd
            go_wp2
            go_roundw
            case rel => exact ⟨l + 1, by omega, by go_num, hrel, hw2⟩
            case measure => simp [intOf]; omega
          · have hz2 : (bits .andNot .i64 (succ es' j l : Nat) (y : Nat) != 0) = true := by rw [bd.out]; simp; omega
            have hno := hLL.out
            rw [show (true && diff (succ es' j l) y != 0) = true by simp [hd]] at hno
            have Hno := hide hno
            clear hno hd
            go_wp2
            go_ret
            refine ⟨ret_bool ?_, hw2⟩
            rw [hA.out]
            refine (Bool.eq_false_iff.2 fun hc => ?_).symm
            have := List.all_eq_true.1 hc l (List.mem_range.2 hlt)
            rw [Hno.out] at this
            simp at this
    · obtain rfl : l = 6 := by omega
      go_wp2
      go_ret
      exact ⟨ret_bool (by rw [hA.out, hall.out]), hext⟩

theorem impl_answers {both : Bool} {es es' : List Edg} {bm bn lo hi n c i j k1 k2 : Nat} {A : Option Addr} {R : List Nat} {w : World} (hm : MovAt w bm es) (hn : MovAt w bn es') (hR : Reads w lo hi 1 A n (nats R)) (hs : ∀ r ∈ R, Sm r) (hT : Tab w)
    (hi : i < 16) (hj : j < 16) (h : Few k1 es) (h' : Few k2 es') (hk1 : k1 ≤ 16) (hk2 : k2 ≤ 16) (hl : k1 ≤ R.length) :
    Calls Tryd.prog 52 #[.pointer (some ⟨bm, 0, none⟩), .pointer (some ⟨bn, 0, none⟩), .slice A n c, .int .i64 i, .int .i64 j, .bool both] w fun e w' => e = .returned (.bool (ansB both es es' R i j)) ∧ Ext w w' := by
  cases both
  · exact impl_answers_f hm hn hR hs hT hi hj h h' hk1 hk2 hl
  · exact impl_answers_t hm hn hR hs hT hi hj h h' hk1 hk2 hl
end Go.Proofs.YtbifoikcmjmdeaaDoor
