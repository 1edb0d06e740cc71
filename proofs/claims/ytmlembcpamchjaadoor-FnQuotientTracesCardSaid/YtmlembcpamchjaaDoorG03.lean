/- A region that draws its order and ends in stores: walked in one order; what is behind all that reads (the tail) may turn what was read. It holds of every program, without conditions. | Contracts of the leaves on words. | Plain: the greatest relation in which the edges of two systems answer each other, as a list of sets. No program in sight. | The members of a set, walked. | Plain: the sets of the states that letters lead to, and what makes edges answer each other, in bits. | impl.answers, walked. | spec.l1Bit, spec.l2Step, walked. | Validity of systems: what it calls. -/
import Derived.Test.YtmlembcpamchjaaDoorG01
import Derived.Test.YtmlembcpamchjaaDoorG02
namespace Go.Proofs.YtmlembcpamchjaaDoor
open Go Go.RowKit

section
variable {P : Program} {ops : Array Oper} {Q : Exit → Act → World → Prop} {md : Region.Mode} {S : Array Bool → World → Prop}

/-- Whatever order is picked; behind every operation the condition of what has come up holds. -/
def wpAnyL (P : Program) (md : Region.Mode) (ops : Array Oper) (Q : Exit → Act → World → Prop) (S : Array Bool → World → Prop) : Nat → Array Bool → Act → World → Prop
  | 0, listed, a, w => Region.ready md ops listed = [] ∧ Q .normal a w
  | fuel + 1, listed, a, w =>
    (Region.ready md ops listed = [] → Q .normal a w) ∧
    ∀ i ∈ Region.ready md ops listed, wpOp P ops Q i (fun a' w' => S (listed.setIfInBounds i true) w' ∧ wpAnyL P md ops Q S fuel (listed.setIfInBounds i true) a' w') a w
theorem wpAny_of_L : ∀ (fuel : Nat) (listed : Array Bool) (a : Act) (w : World), wpAnyL P md ops Q S fuel listed a w → wpAny P md ops Q fuel listed a w
  | 0, _, _, _, h => h
  | fuel + 1, _, _, _, h => ⟨h.1, fun i hi => wpOp_mono (fun a' w' h' => wpAny_of_L fuel _ a' w' h'.2) (h.2 i hi)⟩
theorem wpAnyL_first {i : Nat} {oi : Oper} {v : Value} {Si : World → Prop} {G : Array Bool → Prop} (hi : ops[i]? = some oi) (hsel : ∀ (j : Nat) (o : Oper) cs b, ops[j]? = some o → o.op ≠ .select cs b)
    (hQ : ∀ c a w, Q (.panic c) (a.put oi.dst v) w → Q (.panic c) a w)
    (hG : ∀ listed j, j ∈ Region.ready md ops listed → G listed → G (listed.setIfInBounds j true))
    (hSi : ∀ listed w, G listed → listed.getD i true = false → S listed w → Si w)
    (hup : ∀ listed w, S listed w → S (listed.setIfInBounds i true) w) (hdn : ∀ listed w, listed.getD i true = false → S (listed.setIfInBounds i true) w → S listed w) :
    ∀ (fuel : Nat) (listed : Array Bool) (a : Act) (w : World), G listed →
      (∀ j oj, ops[j]? = some oj → j ≠ i → listed.getD j true = false → (∀ e ∈ oj.after, Region.binds md e = true → e.on ≠ i) → oi.apart ops oj = true) →
      i ∈ Region.ready md ops listed → YieldsIf P ops Si oi v a → S listed w →
      wpAnyL P md ops Q S fuel (listed.setIfInBounds i true) (a.put oi.dst v) w → wpAnyL P md ops Q S (fuel + 1) listed a w := by
  intro fuel
  induction fuel with
  | zero =>
    intro listed a w hg _ hr hy hS H
    refine ⟨fun h => (by rw [h] at hr; cases hr), fun j hj => ?_⟩
    by_cases hji : j = i
    · subst hji; exact hy.wpOp hi (hSi _ _ hg (mem_ready.1 hr).1 hS) ⟨hup _ _ hS, H⟩
    · have := ready_mono hj hji
      rw [H.1] at this
      cases this
  | succ fuel ih =>
    intro listed a w hg hfree hr hy hS H
    refine ⟨fun h => (by rw [h] at hr; cases hr), fun j hj => ?_⟩
    by_cases hji : j = i
    · subst hji; exact hy.wpOp hi (hSi _ _ hg (mem_ready.1 hr).1 hS) ⟨hup _ _ hS, H⟩
    · have h1 := H.2 j (ready_mono hj hji)
      obtain ⟨hjun, oj, hoj, hall⟩ := mem_ready.1 hj
      have hnot : ∀ e ∈ oj.after, Region.binds md e = true → e.on ≠ i := fun e he hb heq => by
        have h1 := hall e he hb
        have h0 := (mem_ready.1 hr).1
        rw [heq] at h1
        rcases Nat.lt_or_ge i listed.size with h' | h'
        · simp [h'] at h0 h1; rw [h0] at h1; cases h1
        · simp [Array.getElem?_eq_none h'] at h1
      have h2 := wpOp_putIf hoj (hfree j oj hoj hji hjun hnot) (fun cs b => hsel i oi cs b hi) (fun cs b => hsel j oj cs b hoj) hQ hy h1
      have hfree' : ∀ k ok, ops[k]? = some ok → k ≠ i → (listed.setIfInBounds j true).getD k true = false →
          (∀ e ∈ ok.after, Region.binds md e = true → e.on ≠ i) → oi.apart ops ok = true := fun k ok hk hki hun hno => by
        refine hfree k ok hk hki ?_ hno
        by_cases hjk : j = k
        · subst hjk; exact hjun
        · rw [getD_set_ne true hjk] at hun; exact hun
      have hiun : (listed.setIfInBounds j true).getD i true = false := by
        rw [getD_set_ne true hji]; exact (mem_ready.1 hr).1
      refine wpOp_mono (fun a' w' h3 => ?_) h2
      have h4 : S (listed.setIfInBounds j true) w' := hdn _ _ hiun (by rw [Array.setIfInBounds_comm _ _ hji]; exact h3.2.1)
      refine ⟨h4, ih (listed.setIfInBounds j true) a' w' (hG _ _ hj hg) hfree' (ready_mono hr (Ne.symm hji)) h3.1 h4 ?_⟩
      rw [Array.setIfInBounds_comm _ _ hji]
      exact h3.2.2
end

/-- What has come up is shut downward. -/
def Clo (l : List Oper) (listed : Array Bool) : Prop := ∀ j, listed.getD j false = true → ∀ o, l[j]? = some o → ∀ e ∈ o.after, Region.binds .any e = true → listed.getD e.on false = true
/-- Number i comes ahead of t, by the region's edges. -/
def below (l : List Oper) : Nat → Nat → Nat → Bool
  | 0, _, _ => false
  | f + 1, t, i => match l[t]? with
    | some o => o.after.any fun e => Region.binds .any e && (e.on == i || below l f e.on i)
    | none => false
theorem below_spec {l : List Oper} {listed : Array Bool} (hc : Clo l listed) : ∀ (f t i : Nat), below l f t i = true → listed.getD t false = true → listed.getD i false = true
  | 0, _, _, h, _ => by simp [below] at h
  | f + 1, t, i, h, ht => by
    unfold below at h
    cases ho : l[t]? with
    | none => simp [ho] at h
    | some o =>
      simp only [ho] at h
      obtain ⟨e, he, hb⟩ := Array.any_eq_true'.1 h
      simp only [Bool.and_eq_true, Bool.or_eq_true, beq_iff_eq] at hb
      have h1 := hc t ht o ho e he hb.1
      rcases hb.2 with h2 | h2
      · rw [← h2]; exact h1
      · exact below_spec hc f e.on i h2 h1
theorem clo_step {l : List Oper} {listed : Array Bool} {j : Nat} (hj : j ∈ Region.ready .any l.toArray listed) (h : Clo l listed) : Clo l (listed.setIfInBounds j true) := by
  intro k hk o ho e he hb
  by_cases hkj : j = k
  · subst hkj
    obtain ⟨_, o', ho', hall⟩ := mem_ready.1 hj
    have : o' = o := by
      have h1 : l[j]? = some o' := by simpa using ho'
      rw [ho] at h1
      exact (Option.some.inj h1).symm
    subst this
    exact getD_set_true (hall e he hb)
  · rw [getD_set_ne false hkj] at hk
    exact getD_set_true (h k hk o ho e he hb)

/-- Operations whose value hangs on no memory. -/
def pureOp : Op → Bool
  | .move _ | .assign _ | .pick _ _ _ | .binOp _ _ _ _ _ | .unOp _ _ _ | .fieldAddr _ _ _ | .field _ _ _ | .extract _ _ | .build _ _ => true
  | _ => false

/-- An order of a region's operations; where two may come up, both. -/
inductive Ord where
  | nil : Ord
  | one : Nat → Ord → Ord
  | two : Nat → Ord → Nat → Ord → Ord
/-- One order. -/
def Ord.of : List Nat → Ord
  | [] => .nil
  | i :: r => .one i (Ord.of r)
/-- Ahead of another order. -/
def Ord.app : List Nat → Ord → Ord
  | [], o => o
  | i :: r, o => .one i (Ord.app r o)
/-- The order serves: as okOrd, with the operations of the tail T, each behind all that reads memory. -/
def okOrdT (l : List Oper) (T : List Nat) : Ord → Array Bool → Bool
  | .nil, listed => (Region.ready .any l.toArray listed).isEmpty
  | .one i rest, listed =>
    (match l[i]? with
      | some o => if quietOp o.op then Region.free .any l.toArray listed i && (Region.ready .any l.toArray listed).contains i && !T.contains i && (pureOp o.op || T.all fun t => below l l.length t i)
        else Region.ready .any l.toArray listed == [i]
      | none => false) && okOrdT l T rest (listed.setIfInBounds i true)
  | .two i r j r', listed => (i < l.length && j < l.length && Region.ready .any l.toArray listed == [i, j]) && (okOrdT l T r (listed.setIfInBounds i true) && okOrdT l T r' (listed.setIfInBounds j true))

def wpSeqT (P : Program) (l : List Oper) (T : List Nat) (Q : Exit → Act → World → Prop) (S : World → Prop) : Ord → Act → World → Prop
  | .nil, a, w => Q .normal a w
  | .one i rest, a, w => match l[i]? with
    | some o => if quietOp o.op then ∃ v, YieldsIf P l.toArray (if pureOp o.op then fun _ => True else S) o v a ∧ wpSeqT P l T Q S rest (a.put o.dst v) w
      else wpOp P l.toArray Q i (fun a' w' => (T.contains i = false → S w') ∧ wpSeqT P l T Q S rest a' w') a w
    | none => False
  | .two i r j r', a, w => wpOp P l.toArray Q i (fun a' w' => (T.contains i = false → S w') ∧ wpSeqT P l T Q S r a' w') a w ∧ wpOp P l.toArray Q j (fun a' w' => (T.contains j = false → S w') ∧ wpSeqT P l T Q S r' a' w') a w
/-- How many operations an order has. -/
def Ord.len : Ord → Nat
  | .nil => 0
  | .one _ r => r.len + 1
  | .two _ r _ r' => (if r.len = r'.len then r.len else 0) + 1
/-- Both ways are of one length. -/
def Ord.even : Ord → Bool
  | .nil => true
  | .one _ r => r.even
  | .two _ r _ r' => r.len == r'.len && (r.even && r'.even)

section
variable {P : Program} {l : List Oper} {Q : Exit → Act → World → Prop} {S : World → Prop} {T : List Nat}

def tailed (T : List Nat) (listed : Array Bool) : Prop := ∃ t ∈ T, listed.getD t false = true
theorem seqT_sound (hs : Region.noSelect l.toArray = true) (hQ : ∀ (c : List PanicEntry) (a : Act) (d : Tmp) (v : Value) (w : World), Q (.panic c) (a.put (some d) v) w → Q (.panic c) a w) :
    ∀ (ord : Ord) (listed : Array Bool) (a : Act) (w : World), listed.size = l.length → Clo l listed → ord.even = true → okOrdT l T ord listed = true → (tailed T listed ∨ S w) → wpSeqT P l T Q S ord a w →
      wpAnyL P .any l.toArray Q (fun listed w => tailed T listed ∨ S w) ord.len listed a w
  | .nil, listed, a, w, _, _, _, hok, _, h => by
    simp only [okOrdT, List.isEmpty_iff] at hok
    exact ⟨hok, h⟩
  | .one i rest, listed, a, w, hsz, hc, hev, hok, hS, h => by
    cases ho : l[i]? with
    | none => simp [okOrdT, ho] at hok
    | some o =>
      have hil : i < l.length := (List.getElem?_eq_some_iff.1 ho).1
      simp only [okOrdT, ho, Bool.and_eq_true] at hok
      simp only [wpSeqT, ho] at h
      by_cases hq : quietOp o.op = true
      · rw [if_pos hq] at hok h
        simp only [Bool.and_eq_true] at hok
        obtain ⟨⟨⟨⟨hf, hrd⟩, hnT⟩, hpure⟩, hrest⟩ := hok
        obtain ⟨v, hy, hr⟩ := h
        have hmem : i ∈ Region.ready .any l.toArray listed := by simpa using hrd
        have hnT' : i ∉ T := by simpa using hnT
        have hset : ∀ listed : Array Bool, tailed T (listed.setIfInBounds i true) ↔ tailed T listed := fun listed => by
          constructor
          · rintro ⟨t, ht, hl⟩
            refine ⟨t, ht, ?_⟩
            rwa [getD_set_ne false (by rintro rfl; exact hnT' ht)] at hl
          · rintro ⟨t, ht, hl⟩
            exact ⟨t, ht, getD_set_true hl⟩
        refine wpAnyL_first (G := fun listed => Clo l listed ∧ listed.size = l.length) (by simpa using ho) (Region.noSelect_spec hs)
          (fun c a w h => by cases hd : o.dst with | none => rw [hd] at h; exact h | some d => rw [hd] at h; exact hQ c a d v w h)
          (fun li j hj hg => ⟨clo_step hj hg.1, by simpa using hg.2⟩) ?_ (fun li w h => h.imp (fun x => (hset li).2 x) id) (fun li w _ h => h.imp (fun x => (hset li).1 x) id)
          rest.len listed a w ⟨hc, hsz⟩ (Region.free_spec (by simpa using ho) hf) hmem hy hS ?_
        · intro li w' hg hun h
          by_cases hp : pureOp o.op = true
          · rw [if_pos hp]; trivial
          · rw [if_neg hp]
            rcases h with ⟨t, ht, hl⟩ | h
            · exfalso
              simp only [hp, Bool.false_or] at hpure
              have hb := List.all_eq_true.1 hpure t ht
              have h1 := below_spec hg.1 _ _ _ hb hl
              have h2 : i < li.size := by rw [hg.2]; exact hil
              simp [h2] at hun h1
              rw [h1] at hun; cases hun
            · exact h
        · exact seqT_sound hs hQ rest _ _ _ (by simpa using hsz) (clo_step hmem hc) hev hrest (hS.imp (fun x => (hset _).2 x) id) hr
      · rw [if_neg hq] at hok h
        have hready : Region.ready .any l.toArray listed = [i] := by simpa using hok.1
        have hmem : i ∈ Region.ready .any l.toArray listed := by rw [hready]; simp
        refine ⟨fun h0 => (by rw [h0] at hready; cases hready), fun j hj => ?_⟩
        rw [hready] at hj
        rw [List.mem_singleton.1 hj]
        refine wpOp_mono (fun a' w' h => ?_) h
        have hS' : tailed T (listed.setIfInBounds i true) ∨ S w' := by
          cases hT : T.contains i
          · exact Or.inr (h.1 hT)
          · refine Or.inl ⟨i, by simpa using hT, ?_⟩
            have : i < listed.size := by omega
            simp [this]
        exact ⟨hS', seqT_sound hs hQ rest _ _ _ (by simpa using hsz) (clo_step hmem hc) hev hok.2 hS' h.2⟩
  | .two i r j r', listed, a, w, hsz, hc, hev, hok, hS, h => by
    simp only [Ord.even, Bool.and_eq_true, beq_iff_eq] at hev
    simp only [okOrdT, Bool.and_eq_true, decide_eq_true_eq, beq_iff_eq] at hok
    simp only [wpSeqT] at h
    obtain ⟨⟨⟨hi, hj⟩, hready⟩, hok1, hok2⟩ := hok
    have hlen : (Ord.two i r j r').len = r.len + 1 := by simp [Ord.len, hev.1]
    rw [hlen]
    have hm : ∀ k, k ∈ Region.ready .any l.toArray listed ↔ k = i ∨ k = j := fun k => by rw [hready]; simp
    have hS' : ∀ k w', k < l.length → (T.contains k = false → S w') → tailed T (listed.setIfInBounds k true) ∨ S w' := fun k w' hk hx => by
      cases hT : T.contains k
      · exact Or.inr (hx hT)
      · refine Or.inl ⟨k, by simpa using hT, ?_⟩
        have : k < listed.size := by omega
        simp [this]
    refine ⟨fun h0 => (by rw [h0] at hready; cases hready), fun k hk => ?_⟩
    rcases (hm k).1 hk with hk' | hk'
    · rw [hk'] at hk ⊢
      refine wpOp_mono (fun a' w' h => ?_) h.1
      exact ⟨hS' _ _ hi h.1, seqT_sound hs hQ r _ _ _ (by simpa using hsz) (clo_step hk hc) hev.2.1 hok1 (hS' _ _ hi h.1) h.2⟩
    · rw [hk'] at hk ⊢
      refine wpOp_mono (fun a' w' h => ?_) h.2
      have := seqT_sound hs hQ r' _ _ _ (by simpa using hsz) (clo_step hk hc) hev.2.2 hok2 (hS' _ _ hj h.1) h.2
      rw [← hev.1] at this
      exact ⟨hS' _ _ hj h.1, this⟩

theorem clo_start (l : List Oper) : Clo l (Array.replicate l.length false) := by
  intro j hj
  exfalso
  rcases Nat.lt_or_ge j l.length with h | h
  · simp [h] at hj
  · simp [Nat.not_lt.2 h] at hj

/-- The region, walked in one order: what reads under S first, then the tail. -/
theorem wp_region_tail {id : Nat} {a : Act} {w : World} (S : World → Prop) (T : List Nat) (ord : Ord) (hm : P.follows .mixedOrders = true) (hlen : ord.len = l.length) (hev : ord.even = true) (hs : Region.noSelect l.toArray = true) (hok : okOrdT l T ord (Array.replicate l.length false) = true)
    (hQ : ∀ (c : List PanicEntry) (a : Act) (d : Tmp) (v : Value) (w : World), Q (.panic c) (a.put (some d) v) w → Q (.panic c) a w) (hS : S w.drew) (h : wpSeqT P l T Q S ord a w.drew) : (Code.region id l.toArray true).wp P Q a w := by
  refine wp_region_any hm ?_
  have := wpAny_of_L _ _ _ _ (seqT_sound hs hQ ord _ a w.drew (by simp) (clo_start l) hev hok (Or.inr hS) h)
  rw [hlen] at this
  simpa using this

theorem tseq_nil {a : Act} {w : World} (h : Q .normal a w) : wpSeqT P l T Q S .nil a w := h
/-- A step that needs no memory. -/
theorem tseq_pure {i : Nat} {rest : Ord} {o : Oper} {v : Value} {a : Act} {w : World} (ho : l[i]? = some o) (hq : quietOp o.op = true) (_hp : pureOp o.op = true) (hw : Region.wanted o (yielded l.toArray a.tmps) = true)
    (hy : ∀ W, (execOp a.eval o).run P W = .ok (.value v) W) (h : wpSeqT P l T Q S rest (a.put o.dst v) w) : wpSeqT P l T Q S (.one i rest) a w := by
  simp only [wpSeqT, ho, hq, if_true]
  exact ⟨v, .inl ⟨hw, fun W _ => hy W⟩, h⟩
/-- A step that reads. -/
theorem tseq_read {i : Nat} {rest : Ord} {o : Oper} {v : Value} {a : Act} {w : World} (ho : l[i]? = some o) (hq : quietOp o.op = true) (hp : pureOp o.op = false) (hw : Region.wanted o (yielded l.toArray a.tmps) = true)
    (hy : ∀ W, S W → (execOp a.eval o).run P W = .ok (.value v) W) (h : wpSeqT P l T Q S rest (a.put o.dst v) w) : wpSeqT P l T Q S (.one i rest) a w := by
  simp only [wpSeqT, ho, hq, hp, if_true]
  exact ⟨v, .inl ⟨hw, hy⟩, h⟩
/-- A step whose guard is off. -/
theorem tseq_skip {i : Nat} {rest : Ord} {o : Oper} {a : Act} {w : World} (ho : l[i]? = some o) (hw : Region.wanted o (yielded l.toArray a.tmps) = false)
    (hS : S w) (h : wpSeqT P l T Q S rest (a.put o.dst undef) w) : wpSeqT P l T Q S (.one i rest) a w := by
  simp only [wpSeqT, ho]
  split
  · exact ⟨undef, .inr ⟨hw, rfl⟩, h⟩
  · unfold wpOp
    simp only [List.getElem?_toArray, ho, hw, Bool.false_eq_true, if_false]
    exact ⟨fun _ => hS, h⟩
/-- A step that makes memory, or calls, ahead of the tail. -/
theorem tseq_step {i : Nat} {rest : Ord} {o : Oper} {a : Act} {w : World} (ho : l[i]? = some o) (hq : quietOp o.op = false) (hw : Region.wanted o (yielded l.toArray a.tmps) = true)
    (h : ∀ K : Act → World → Prop, Shut (∀ a w, S w → wpSeqT P l T Q S rest a w → K a w) → o.wp P a w K Q) : wpSeqT P l T Q S (.one i rest) a w := by
  simp only [wpSeqT, ho, hq]
  unfold wpOp
  simp only [List.getElem?_toArray, ho, hw, if_true]
  exact .inl (h _ fun a w hS hW => ⟨fun _ => hS, hW⟩)
/-- A step of the tail. -/
theorem tseq_last {i : Nat} {rest : Ord} {o : Oper} {a : Act} {w : World} (ho : l[i]? = some o) (hq : quietOp o.op = false) (hT : T.contains i = true) (hw : Region.wanted o (yielded l.toArray a.tmps) = true)
    (h : ∀ K : Act → World → Prop, Shut (∀ a w, wpSeqT P l T Q S rest a w → K a w) → o.wp P a w K Q) : wpSeqT P l T Q S (.one i rest) a w := by
  simp only [wpSeqT, ho, hq]
  unfold wpOp
  simp only [List.getElem?_toArray, ho, hw, if_true]
  exact .inl (h _ fun a w hW => ⟨fun hn => absurd (hn.symm.trans hT) (by decide), hW⟩)
end

section
variable {P : Program} {l : List Oper} {Q : Exit → Act → World → Prop} {S : World → Prop} {T : List Nat}
/-- Two that may come up, neither of the tail. -/
theorem tseq_both {i j : Nat} {r r' : Ord} {o o' : Oper} {a : Act} {w : World} (ho : l[i]? = some o) (ho' : l[j]? = some o') (hw : Region.wanted o (yielded l.toArray a.tmps) = true) (hw' : Region.wanted o' (yielded l.toArray a.tmps) = true)
    (h1 : ∀ K : Act → World → Prop, Shut (∀ a w, S w → wpSeqT P l T Q S r a w → K a w) → o.wp P a w K Q) (h2 : ∀ K : Act → World → Prop, Shut (∀ a w, S w → wpSeqT P l T Q S r' a w → K a w) → o'.wp P a w K Q) : wpSeqT P l T Q S (.two i r j r') a w := by
  constructor
  · unfold wpOp
    simp only [List.getElem?_toArray, ho, hw, if_true]
    exact .inl (h1 _ fun a w hS hW => ⟨fun _ => hS, hW⟩)
  · unfold wpOp
    simp only [List.getElem?_toArray, ho', hw', if_true]
    exact .inl (h2 _ fun a w hS hW => ⟨fun _ => hS, hW⟩)
end
/-- 'append(s, x)' of one element, in a region that draws. -/
theorem wp_push {P : Program} (wb w : World) {o : Oper} {a : Act} {K : Act → World → Prop} {Q : Exit → Act → World → Prop} (s x : Operand) (t : TypeId)
    (ho : o.op = .call { callee := .builtin .append, args := #[s, x], argTypes := #[t, t] })
    (e : TypeId) (z : Value) (size bytes : Nat) (ht : P.underlying t = some (.slice e)) (hi : (P.info? e).map (fun i => (i.zero, i.size, i.bytes)) = some (some z, size, bytes)) (hzs : z.cells.size = size) (hsz : 0 < size)
    (v : Value) (n : Nat) (xs : List Value) (us : Array Value) (e' : TypeId) (hs : a.eval s = v) (hx : a.eval x = .slice (some ⟨w.heap.size, 0, none⟩) 1 1)
    (hext : wb.heap.size ≤ w.heap.size) (hown : w.ownsRow wb.heap.size e size v n xs) (hus : us.size = size) (h1 : ∀ u ∈ us.toList, u.oneCell' = true)
    (h63 : n + 1 ≤ maxLen) (hbytes : (n + 1) * bytes ≤ 140737488355328)
    (h : ∀ g cap w', w'.ownsRow wb.heap.size e size (.slice (some ⟨g, 0, none⟩) (n + 1) cap) (n + 1) (xs ++ us.toList) → w.grownBy w' v.ownBlock → (v.ownBlock = some g ∨ g = w.heap.size + 1) → g < w'.heap.size → K (a.put o.dst (.slice (some ⟨g, 0, none⟩) (n + 1) cap)) w') :
    o.wp P a (w.alloc (.cells us e')) K Q := by
  obtain ⟨i, hi0, hz0, hz1, hz2⟩ := info_parts hi
  refine wp_append_lies (w.alloc (.cells us e')) s x t ho wb.heap.size e i z size bytes ht hi0 hz0 hz1 hz2 hzs hsz v n xs hs (hown.alloc _) ⟨w.heap.size, 0, none⟩ 1 1 us.toList hx (by simpa using hus) ?_ h1 (by omega) h63 hbytes (by simp; omega) (w.heap.size + 1) (by simp) ?_
  · intro j u hu
    rw [addr_lit, Nat.zero_add, (Blk.new w e' us).cell]
    simpa using hu
  · intro g cap w' hown' hg hat hlt
    have hg' : w.grownBy w' v.ownBlock := ⟨hg.os, hg.tape, hg.output, Nat.le_trans (by simp) hg.size, fun k hk hne => (hg.block k (by simp; omega) hne).trans (Below.heap_alloc w _ k hk)⟩
    exact h g cap w' hown' hg' hat hlt
/-- 'append(s, x)' of one element, in a region that keeps its order. -/
theorem wpList_push3 {P : Program} (wb w : World) {ops : Array Oper} {rest : List Oper} {o : Oper} {a : Act} {Q : Exit → Act → World → Prop} (hgd : o.guard = none) (s x : Operand) (t : TypeId)
    (ho : o.op = .call { callee := .builtin .append, args := #[s, x], argTypes := #[t, t] })
    (e : TypeId) (z : Value) (size bytes : Nat) (ht : P.underlying t = some (.slice e)) (hi : (P.info? e).map (fun i => (i.zero, i.size, i.bytes)) = some (some z, size, bytes)) (hzs : z.cells.size = size) (hsz : 0 < size)
    (v : Value) (n : Nat) (xs : List Value) (us : Array Value) (e' : TypeId) (hs : a.eval s = v) (hx : a.eval x = .slice (some ⟨w.heap.size, 0, none⟩) 1 1)
    (hext : wb.heap.size ≤ w.heap.size) (hown : w.ownsRow wb.heap.size e size v n xs) (hus : us.size = size) (h1 : ∀ u ∈ us.toList, u.oneCell' = true)
    (h63 : n + 1 ≤ maxLen) (hbytes : (n + 1) * bytes ≤ 140737488355328)
    (h : ∀ g cap w', w'.ownsRow wb.heap.size e size (.slice (some ⟨g, 0, none⟩) (n + 1) cap) (n + 1) (xs ++ us.toList) → w.grownBy w' v.ownBlock → (v.ownBlock = some g ∨ g = w.heap.size + 1) → g < w'.heap.size → wpList P ops Q rest (a.put o.dst (.slice (some ⟨g, 0, none⟩) (n + 1) cap)) w') :
    wpList P ops Q (o :: rest) a (w.alloc (.cells us e')) :=
  wpList_plain hgd fun _ hK => wp_push wb w s x t ho e z size bytes ht hi hzs hsz v n xs us e' hs hx hext hown hus h1 h63 hbytes fun g cap w' h2 h3 h4 h5 => hK _ _ (h g cap w' h2 h3 h4 h5)
end Go.Proofs.YtmlembcpamchjaaDoor

namespace Go.Proofs.YtmlembcpamchjaaDoor
open Go Go.RowKit
set_option maxHeartbeats 400000

theorem spec_l1Letters (a : Nat) (hs : Sm a) (w : World) :
    Calls Tryd.prog 28 #[.int .i64 a] w (RetNats w (letters a 6)) := by
  go_enter Tryd.func28, Tryd.ntmps28
  go_wp2
  go_loopw [3, 4] (fun v i wr => ∃ k : Nat, k ≤ 6 ∧ i = .int .i64 k ∧ wr.ownsRow w.heap.size 3 1 v (letters a k).length (nats (letters a k)) ∧ Ext w wr)
    (fun _ i _ => 6 - (intOf i).toNat)
  case atStart => exact ⟨0, Nat.zero_le _, rfl, World.ownsRow_lit w #[] 0 (Nat.le_refl _) (by unfold maxLen; omega) rfl, (Ext.refl _).alloc _⟩
  case round =>
    obtain ⟨k, hk, rfl, hown, hext⟩ := hrel
    have hl := letters_length a k
    by_cases hlt : k < 6
    · cases hb : a.testBit k
      all_goals
        have Hb := hide hb
        have hls := letters_succ a k
        rw [hb] at hls
        have Hls := hide hls
        clear hls hb
        go_wp2_with (first
          | (go_at_call 32; refine (spec_l1Has a k hs _ (by omega)).mono ?_; rw [Hb.out]; rintro e w' ⟨rfl, rfl⟩)
          | (at_builtin; refine wpList_push w wr rfl _ _ _ rfl 3 _ 1 8 Tryd.underlying38 info_int rfl (by decide) u3 _ _ _ _ rfl rfl hext hown rfl (cells_int _) (by unfold maxLen; omega) (by omega) ?_; intro v' w1 hext1 hown1 hg1 hat1))
        go_roundw
        case rel => exact ⟨k + 1, by omega, by go_num, by rw [Hls.out]; first | simpa [nats] using hown1 | simpa using hown, by assumption⟩
        case measure => simp [intOf]; omega
    · obtain rfl : k = 6 := by omega
      obtain ⟨A, c, rfl⟩ := own_form hown
      go_wp2
      go_ret
      exact ⟨_, _, rfl, hown, hext⟩

/-- A byte is a letter. -/
def letterB (b : UInt8) : Bool := decide (97 ≤ (b.toNat : Int) ∧ (b.toNat : Int) ≤ 102)
/-- A string is a word. -/
def wordB (s : ByteArray) : Bool := decide (s.size ≤ 50000) && s.data.toList.all letterB
theorem byte_get (s : ByteArray) (i : Nat) (h : i < s.size) : s.data.toList[i]? = some s[i] := by
  rw [List.getElem?_eq_getElem (by simpa using h)]; rfl

/-- Each letter of a string is in an alphabet. -/
def overB (s : ByteArray) (a : Nat) : Bool := s.data.toList.all fun b => hasB a (ltr b.toNat)
theorem over_all {a : Nat} (h : a = 63) (b : UInt8) : hasB a (ltr b.toNat) = letterB b := by
  subst h
  have : b.toNat < 256 := b.toNat_lt
  unfold hasB ltr letterB
  by_cases h1 : (b.toNat : Int) - 97 < 0
  · rw [if_pos (.inl h1)]; simp; omega
  · by_cases h2 : 6 ≤ (b.toNat : Int) - 97
    · rw [if_pos (.inr h2)]; simp; omega
    · rw [if_neg (by omega)]
      have h3 : b.toNat = 97 ∨ b.toNat = 98 ∨ b.toNat = 99 ∨ b.toNat = 100 ∨ b.toNat = 101 ∨ b.toNat = 102 := by omega
      rcases h3 with h | h | h | h | h | h <;> rw [h] <;> decide
theorem overB_63 (s : ByteArray) : overB s 63 = s.data.toList.all letterB := by
  unfold overB
  congr 1
  funext b
  exact over_all rfl b

end Go.Proofs.YtmlembcpamchjaaDoor

namespace Go.Proofs.YtmlembcpamchjaaDoor
open Go Go.RowKit

/-- There is an edge from i over l to k. -/
def E (es : List Edg) (i l k : Nat) : Prop := ∃ e ∈ es, e.fr = i ∧ e.le = l ∧ e.to = k
/-- The edges from i are answered by those from j, into X; the other way round too, if both. -/
def Ok (both : Bool) (es es' : List Edg) (X : Nat → Nat → Prop) (i j : Nat) : Prop :=
  (∀ l k, E es i l k → ∃ k', E es' j l k' ∧ X k k') ∧ (both = true → ∀ l k', E es' j l k' → ∃ k, E es i l k ∧ X k k')
theorem Ok.mono {both : Bool} {es es' : List Edg} {X Y : Nat → Nat → Prop} {i j : Nat} (h : Ok both es es' X i j) (hXY : ∀ i j, X i j → Y i j) : Ok both es es' Y i j := by
  refine ⟨fun l k hk => ?_, fun hb l k hk => ?_⟩
  · obtain ⟨k', h1, h2⟩ := h.1 l k hk
    exact ⟨k', h1, hXY _ _ h2⟩
  · obtain ⟨k', h1, h2⟩ := h.2 hb l k hk
    exact ⟨k', h1, hXY _ _ h2⟩
/-- A list of sets, as a relation. -/
def rel (R : List Nat) (i j : Nat) : Prop := i < R.length ∧ (R.getD i 0).testBit j = true
/-- A relation between the m and the n states in which the edges answer each other. -/
def Post (both : Bool) (es es' : List Edg) (m n : Nat) (X : Nat → Nat → Prop) : Prop := ∀ i j, X i j → i < m ∧ j < n ∧ Ok both es es' X i j
/-- The sets hold the greatest relation, and are small. -/
structure Inv (both : Bool) (es es' : List Edg) (m n : Nat) (R : List Nat) : Prop where
  len : R.length = m
  small : ∀ r ∈ R, r < 2 ^ n
  great : ∀ X, Post both es es' m n X → ∀ i j, X i j → rel R i j
structure Gfp (both : Bool) (es es' : List Edg) (m n : Nat) (R : List Nat) : Prop extends Inv both es es' m n R where
  post : ∀ i j, rel R i j → Ok both es es' (rel R) i j

theorem rel_lt {both : Bool} {es es' : List Edg} {m n : Nat} {R : List Nat} (h : Inv both es es' m n R) {i j : Nat} (hr : rel R i j) : i < m ∧ j < n := by
  refine ⟨by have := h.len; have := hr.1; omega, ?_⟩
  rcases Nat.lt_or_ge j n with h1 | h1
  · exact h1
  · have hi := hr.1
    have hm := h.small _ (List.getElem_mem hi)
    have := Nat.testBit_lt_two_pow (Nat.lt_of_lt_of_le hm (Nat.pow_le_pow_right (by omega) h1))
    have h2 := hr.2
    rw [List.getD_eq_getElem?_getD, List.getElem?_eq_getElem hi] at h2
    simp [this] at h2

theorem Gfp.unique {both : Bool} {es es' : List Edg} {m n : Nat} {R S : List Nat} (h : Gfp both es es' m n R) (h' : Gfp both es es' m n S) : R = S := by
  have p : Post both es es' m n (rel R) := fun i j hr => ⟨(rel_lt h.toInv hr).1, (rel_lt h.toInv hr).2, h.post i j hr⟩
  have p' : Post both es es' m n (rel S) := fun i j hr => ⟨(rel_lt h'.toInv hr).1, (rel_lt h'.toInv hr).2, h'.post i j hr⟩
  have e : ∀ i j, rel R i j ↔ rel S i j := fun i j => ⟨fun x => h'.great _ p i j x, fun x => h.great _ p' i j x⟩
  apply List.ext_getElem (by rw [h.len, h'.len])
  intro i h1 h2
  apply Nat.eq_of_testBit_eq
  intro j
  have := e i j
  simp only [rel, h1, h2, true_and, List.getD_eq_getElem?_getD, List.getElem?_eq_getElem, Option.getD_some] at this
  exact Bool.eq_iff_iff.2 this

theorem Inv.start (both : Bool) (es es' : List Edg) (m n : Nat) : Inv both es es' m n (List.replicate m (2 ^ n - 1)) where
  len := by simp
  small r hr := by
    have := Nat.two_pow_pos n
    rw [List.eq_of_mem_replicate hr]; omega
  great X hX i j hx := by
    obtain ⟨h1, h2, _⟩ := hX i j hx
    refine ⟨by simpa using h1, ?_⟩
    rw [List.getD_eq_getElem?_getD, List.getElem?_replicate, if_pos h1, Option.getD_some, Nat.testBit_two_pow_sub_one]
    simpa using h2

/-- A set without one number. -/
theorem sub_part (p q r : Nat) (h : 1 ≤ q) : p * q + r - p = p * (q - 1) + r := by
  obtain ⟨d, rfl⟩ : ∃ d, q = d + 1 := ⟨q - 1, by omega⟩
  rw [Nat.mul_add, Nat.mul_one, Nat.add_sub_cancel]
  omega
theorem testBit_part {q r j : Nat} (hq : q % 2 = 1) (hr : r < 2 ^ j) (k : Nat) : (2 ^ j * (q - 1) + r).testBit k = ((2 ^ j * q + r).testBit k && !decide (k = j)) := by
  rw [Nat.testBit_two_pow_mul_add _ hr, Nat.testBit_two_pow_mul_add _ hr]
  by_cases hk : k < j
  · rw [if_pos hk, if_pos hk]
    have : k ≠ j := by omega
    simp [this]
  · rw [if_neg hk, if_neg hk]
    obtain ⟨d, rfl⟩ : ∃ d, k = j + d := ⟨k - j, by omega⟩
    rw [Nat.add_sub_cancel_left]
    cases d with
    | zero => simp [Nat.testBit_zero]; omega
    | succ d =>
      rw [Nat.testBit_succ, Nat.testBit_succ, show (q - 1) / 2 = q / 2 by omega]
      simp
theorem testBit_sub_pow {x j : Nat} (h : x.testBit j = true) (k : Nat) : (x - 2 ^ j).testBit k = (x.testBit k && !decide (k = j)) := by
  have hodd : x / 2 ^ j % 2 = 1 := by
    have := h
    rw [Nat.testBit_eq_decide_div_mod_eq] at this
    simpa using this
  have hdm := Nat.div_add_mod x (2 ^ j)
  have hlt := Nat.mod_lt x (Nat.two_pow_pos j)
  have hq : 1 ≤ x / 2 ^ j := by generalize x / 2 ^ j = q at hodd; omega
  have := testBit_part hodd hlt k
  rw [← sub_part _ _ _ hq, hdm] at this
  exact this

theorem rel_set {R : List Nat} {i j : Nat} (h : rel R i j) (a b : Nat) : rel (R.set i (R.getD i 0 - 2 ^ j)) a b ↔ rel R a b ∧ ¬ (a = i ∧ b = j) := by
  unfold rel
  have h1 := h.1
  have h2 := h.2
  simp only [List.length_set, List.getD_eq_getElem?_getD] at h2 ⊢
  by_cases ha : a = i
  · subst ha
    rw [List.getElem?_set_self h1, Option.getD_some, testBit_sub_pow h2]
    by_cases hb : b = j
    · simp [hb]
    · simp [hb]
  · rw [List.getElem?_set_ne (by omega)]
    simp [ha]

theorem Inv.drop {both : Bool} {es es' : List Edg} {m n : Nat} {R : List Nat} {i j : Nat} (h : Inv both es es' m n R) (hr : rel R i j) (hn : ¬ Ok both es es' (rel R) i j) : Inv both es es' m n (R.set i (R.getD i 0 - 2 ^ j)) where
  len := by rw [List.length_set, h.len]
  small r hm := by
    rcases List.mem_or_eq_of_mem_set hm with h1 | h1
    · exact h.small r h1
    · have hi := hr.1
      have := h.small _ (List.getElem_mem hi)
      rw [h1, List.getD_eq_getElem?_getD, List.getElem?_eq_getElem hi, Option.getD_some]
      exact Nat.lt_of_le_of_lt (Nat.sub_le _ _) this
  great X hX a b hx := by
    rw [rel_set hr]
    refine ⟨h.great X hX a b hx, ?_⟩
    rintro ⟨rfl, rfl⟩
    exact hn ((hX _ _ hx).2.2.mono (h.great X hX))
theorem sum_drop {R : List Nat} {i j : Nat} (hr : rel R i j) : (R.set i (R.getD i 0 - 2 ^ j)).sum + 2 ^ j = R.sum := by
  obtain ⟨hi, hb⟩ := hr
  have hle := Nat.ge_two_pow_of_testBit hb
  induction R generalizing i with
  | nil => simp at hi
  | cons x r ih =>
    cases i with
    | zero => simp at hle ⊢; omega
    | succ i =>
      simp only [List.getD_cons_succ] at hb hle ⊢
      have := ih (by simpa using hi) hb hle
      simp only [List.set_cons_succ, List.sum_cons]
      omega
theorem sum_drop_lt {R : List Nat} {i j : Nat} (hr : rel R i j) : (R.set i (R.getD i 0 - 2 ^ j)).sum < R.sum := by
  have := sum_drop hr
  have := Nat.two_pow_pos j
  omega

/-- The set of the states that a letter leads to. -/
def succ (es : List Edg) (i l : Int) : Nat := es.foldl (fun m e => if e.fr = i ∧ e.le = l then m ||| 2 ^ e.to.toNat else m) 0
theorem succ_snoc (es : List Edg) (e : Edg) (i l : Int) : succ (es ++ [e]) i l = if e.fr = i ∧ e.le = l then succ es i l ||| 2 ^ e.to.toNat else succ es i l := by
  simp [succ]
end Go.Proofs.YtmlembcpamchjaaDoor

namespace Go.Proofs.YtmlembcpamchjaaDoor
open Go Go.RowKit
set_option maxHeartbeats 1000000

theorem and_pred (k m : Nat) : (2 ^ k * (2 * m + 1)) &&& (2 ^ k * (2 * m + 1) - 1) = 2 ^ k * (2 * m) := by
  have hp := Nat.two_pow_pos k
  have e : 2 ^ k * (2 * m + 1) - 1 = 2 ^ k * (2 * m) + (2 ^ k - 1) := by rw [Nat.mul_add, Nat.mul_one]; omega
  rw [e]
  apply Nat.eq_of_testBit_eq
  intro i
  have e0 : ∀ q, (2 ^ k * q).testBit i = if i < k then false else q.testBit (i - k) := fun q => by
    have := Nat.testBit_two_pow_mul_add q (b := 0) (i := k) hp i
    rw [Nat.add_zero] at this
    rw [this, Nat.zero_testBit]
  rw [Nat.testBit_and, e0, Nat.testBit_two_pow_mul_add _ (by omega), e0]
  by_cases hi : i < k
  · simp [hi]
  · simp only [hi, if_false]
    cases hd : i - k with
    | zero => simp [Nat.testBit_zero]
    | succ d => rw [Nat.testBit_succ, Nat.testBit_succ, show (2 * m + 1) / 2 = m by omega, show (2 * m) / 2 = m by omega]; simp
/-- The lowest number of a set: what lies below is not in it; taken away, the rest stays. -/
theorem lowest {x : Nat} (h0 : x ≠ 0) (hs : Sm x) : ∃ k, Lib.ctz 64 x = k ∧ k < 32 ∧ x.testBit k = true ∧ (∀ i, i < k → x.testBit i = false) ∧ x &&& (x - 1) = x - 2 ^ k ∧ 2 ^ k ≤ x := by
  have hx := hs.lt
  obtain ⟨m, hm, hk⟩ := Lib.ctzFrom_spec 64 x (by omega) (by omega)
  have e : Lib.ctz 64 x = Lib.ctzFrom 64 x := by simp [Lib.ctz, h0]
  generalize Lib.ctzFrom 64 x = k at *
  have hp := Nat.two_pow_pos k
  have hle : 2 ^ k ≤ x := by rw [hm]; exact Nat.le_mul_of_pos_right _ (by omega)
  have e0 : ∀ q i, (2 ^ k * q).testBit i = if i < k then false else q.testBit (i - k) := fun q i => by
    have := Nat.testBit_two_pow_mul_add q (b := 0) (i := k) hp i
    rw [Nat.add_zero] at this
    rw [this, Nat.zero_testBit]
  refine ⟨k, e, ?_, ?_, fun i hi => ?_, ?_, hle⟩
  · apply Nat.lt_of_not_le
    intro h32
    have := Nat.pow_le_pow_right (n := 2) (by omega) h32
    omega
  · rw [hm, e0]; simp
  · rw [hm, e0]; simp [hi]
  · rw [hm, and_pred, Nat.mul_add, Nat.mul_one, Nat.add_sub_cancel]
theorem testBit_sub_low {x j : Nat} (h : x.testBit j = true) (hl : ∀ i, i < j → x.testBit i = false) (k : Nat) : (x - 2 ^ j).testBit k = (x.testBit k && !decide (k = j)) := by
  have hodd : x / 2 ^ j % 2 = 1 := by
    have := h
    rw [Nat.testBit_eq_decide_div_mod_eq] at this
    simpa using this
  have hp := Nat.two_pow_pos j
  have hr : x % 2 ^ j = 0 := by
    apply Nat.eq_of_testBit_eq
    intro i
    rw [Nat.testBit_mod_two_pow, Nat.zero_testBit]
    by_cases hi : i < j
    · simp [hi, hl i hi]
    · simp [hi]
  have hdm := Nat.div_add_mod x (2 ^ j)
  rw [hr, Nat.add_zero] at hdm
  generalize x / 2 ^ j = q at *
  have e0 : ∀ q i, (2 ^ j * q).testBit i = if i < j then false else q.testBit (i - j) := fun q i => by
    have := Nat.testBit_two_pow_mul_add q (b := 0) (i := j) hp i
    rw [Nat.add_zero] at this
    rw [this, Nat.zero_testBit]
  have e : x - 2 ^ j = 2 ^ j * (q - 1) := by rw [← hdm, Nat.mul_sub, Nat.mul_one]
  rw [e, ← hdm, e0, e0]
  by_cases hk : k < j
  · simp [hk]
  · simp only [hk, if_false]
    obtain ⟨d, rfl⟩ : ∃ d, k = j + d := ⟨k - j, by omega⟩
    rw [Nat.add_sub_cancel_left]
    cases d with
    | zero => simp [Nat.testBit_zero]; omega
    | succ d =>
      rw [Nat.testBit_succ, Nat.testBit_succ, show (q - 1) / 2 = q / 2 by omega]
      simp
theorem letters_low {x k : Nat} (h : x.testBit k = true) (hl : ∀ i, i < k → x.testBit i = false) : ∀ n, (n ≤ k → letters x n = [] ∧ letters (x - 2 ^ k) n = []) ∧ (k < n → letters x n = k :: letters (x - 2 ^ k) n)
  | 0 => ⟨fun _ => ⟨rfl, rfl⟩, fun h => by omega⟩
  | n + 1 => by
    have ih := letters_low h hl n
    have hb := testBit_sub_low h hl n
    rw [letters_succ, letters_succ, hb]
    refine ⟨fun hn => ?_, fun hn => ?_⟩
    · obtain ⟨e1, e2⟩ := ih.1 (by omega)
      rw [e1, e2, hl n (by omega)]
      simp
    · rcases Nat.lt_or_ge k n with h1 | h1
      · rw [ih.2 h1]
        have : n ≠ k := by omega
        simp [this]
      · obtain ⟨e1, e2⟩ := ih.1 h1
        obtain rfl : n = k := by omega
        rw [e1, e2, h]
        simp
theorem letters_step {x : Nat} (h0 : x ≠ 0) (hs : Sm x) : letters x 32 = Lib.ctz 64 x :: letters (x &&& (x - 1)) 32 ∧ x &&& (x - 1) < x ∧ Lib.ctz 64 x < 32 := by
  obtain ⟨k, e, hk, hb, hl, ha, hle⟩ := lowest h0 hs
  have hp := Nat.two_pow_pos k
  rw [e, ha]
  exact ⟨(letters_low hb hl 32).2 hk, by omega, hk⟩

theorem impl_members (a : Nat) (hs : Sm a) (w : World) (hT : Tab w) :
    Calls Tryd.prog 47 #[.int .i64 a] w (RetNats w (letters a 32)) := by
  have hlen := letters_length a 32
  go_enter Tryd.func47, Tryd.ntmps47
  go_wp2
  go_loopw [0, 3, 4] (fun s v _ wr => ∃ x : Nat, s = .int .i64 x ∧ Sm x ∧ ∃ o : List Nat, Hid (letters a 32 = o ++ letters x 32) ∧ wr.ownsRow w.heap.size 3 1 v o.length (nats o) ∧ Ext w wr)
    (fun s _ _ _ => (intOf s).toNat)
  case atStart => exact ⟨a, rfl, hs, [], rfl, World.ownsRow_nil _ _ _ _, Ext.refl _⟩
  case round =>
    obtain ⟨x, rfl, hx, o, ho, hown, hext⟩ := hrel
    have hx' := hx.lt
    have hol : o.length + (letters x 32).length ≤ 32 := by have := ho.out; rw [this, List.length_append] at hlen; exact hlen
    by_cases h0 : x = 0
    · subst h0
      obtain ⟨A, c, rfl⟩ := own_form hown
      go_wp2
      go_ret
      have hl0 := ho.out
      rw [show letters 0 32 = [] by decide, List.append_nil] at hl0
      exact ⟨A, c, by rw [hl0]; rfl, by rw [hl0]; exact hown, hext⟩
    · obtain ⟨hl, hlt, hc⟩ := letters_step h0 hx
      have Hl := hide hl
      have hne : ((x : Int) != 0) = true := by simp; omega
      have hT' := hT.ext hext
      have hb := hide (bits_and (a := x) (b := x - 1) hx (by unfold Sm; omega))
      have hol' : o.length < 32 := by rw [hl] at hol; simp at hol; omega
      clear hl hlen hol
      have hi := hide (show ((x : Int) - 1) = ((x - 1 : Nat) : Int) by omega)
      go_wp2_with (first
        | (go_at_call 71; refine (tz x (by omega) h0 _ hT').mono ?_; rintro e w' ⟨rfl, rfl⟩)
        | (at_builtin; refine wpList_push w wr rfl (.tmp 10) (.tmp 14) _ rfl 3 _ 1 8 Tryd.underlying38 info_int rfl (by decide) u3 _ _ _ _ rfl rfl hext hown rfl (cells_int _) (by unfold maxLen; omega) (by omega) ?_; intro v' w1 hext1 hown1 hg1 hat1))
      go_roundw
      case rel => exact ⟨x &&& (x - 1), by rw [hi.out, hb.out], Nat.lt_of_le_of_lt Nat.and_le_left hx, o ++ [Lib.ctz 64 x], by have := ho.out; unfold Hid; rw [this, Hl.out]; simp, by simpa [nats] using hown1, by assumption⟩
      case measure =>
        have := hb.out
        rw [← hi.out] at this
        simp [intOf]
        omega
end Go.Proofs.YtmlembcpamchjaaDoor

namespace Go.Proofs.YtmlembcpamchjaaDoor
open Go Go.RowKit

theorem foldl_bit (es : List Edg) (p : Edg → Prop) [DecidablePred p] (m k : Nat) : (es.foldl (fun m e => if p e then m ||| 2 ^ e.to.toNat else m) m).testBit k = true ↔ m.testBit k = true ∨ ∃ e ∈ es, p e ∧ e.to.toNat = k := by
  induction es generalizing m with
  | nil => simp
  | cons e r ih =>
    rw [List.foldl_cons, ih]
    by_cases hp : p e
    · rw [if_pos hp, Nat.testBit_or, Nat.testBit_two_pow]
      simp only [Bool.or_eq_true, decide_eq_true_eq, List.mem_cons]
      constructor
      · rintro ((h | h) | ⟨e', h1, h2⟩)
        · exact Or.inl h
        · exact Or.inr ⟨e, Or.inl rfl, hp, h⟩
        · exact Or.inr ⟨e', Or.inr h1, h2⟩
      · rintro (h | ⟨e', h1 | h1, h2⟩)
        · exact Or.inl (Or.inl h)
        · subst h1; exact Or.inl (Or.inr h2.2)
        · exact Or.inr ⟨e', h1, h2⟩
    · rw [if_neg hp]
      constructor
      · rintro (h | ⟨e', h1, h2⟩)
        · exact Or.inl h
        · exact Or.inr ⟨e', List.mem_cons_of_mem _ h1, h2⟩
      · rintro (h | ⟨e', h1, h2⟩)
        · exact Or.inl h
        · rcases List.mem_cons.1 h1 with h1 | h1
          · subst h1; exact absurd h2.1 hp
          · exact Or.inr ⟨e', h1, h2⟩
theorem succ_bit (es : List Edg) (i l : Int) (k : Nat) : (succ es i l).testBit k = true ↔ ∃ e ∈ es, (e.fr = i ∧ e.le = l) ∧ e.to.toNat = k := by
  have := foldl_bit es (fun e => e.fr = i ∧ e.le = l) 0 k
  simpa [succ] using this
/-- Edges between few states. -/
def Few (n : Nat) (es : List Edg) : Prop := ∀ e ∈ es, (0 ≤ e.fr ∧ e.fr < n) ∧ (0 ≤ e.le ∧ e.le < 6) ∧ (0 ≤ e.to ∧ e.to < n)
theorem E_iff {n : Nat} {es : List Edg} (h : Few n es) (i l k : Nat) : E es i l k ↔ (succ es i l).testBit k = true := by
  rw [succ_bit]
  constructor
  · rintro ⟨e, he, h1, h2, h3⟩
    exact ⟨e, he, ⟨h1, h2⟩, by omega⟩
  · rintro ⟨e, he, ⟨h1, h2⟩, h3⟩
    have := h e he
    exact ⟨e, he, h1, h2, by omega⟩
theorem succ_lt {n : Nat} {es : List Edg} (h : Few n es) (i l : Int) : succ es i l < 2 ^ n := by
  apply Nat.lt_pow_two_of_testBit
  intro k hk
  rw [Bool.eq_false_iff]
  intro hb
  obtain ⟨e, he, _, h3⟩ := (succ_bit es i l k).1 hb
  have := h e he
  omega
theorem succ_sm {n : Nat} {es : List Edg} (h : Few n es) (hn : n ≤ 16) (i l : Int) : Sm (succ es i l) :=
  Nat.lt_of_lt_of_le (succ_lt h i l) (by rw [show (4294967296 : Nat) = 2 ^ 32 from rfl]; exact Nat.pow_le_pow_right (by omega) (by omega))

/-- The numbers of one set and not of another. -/
def diff (a b : Nat) : Nat := a ^^^ (a &&& b)
theorem diff_bit (a b k : Nat) : (diff a b).testBit k = (a.testBit k && !b.testBit k) := by
  unfold diff
  rw [Nat.testBit_xor, Nat.testBit_and]
  cases a.testBit k <;> cases b.testBit k <;> rfl
theorem diff_le (a b : Nat) : diff a b ≤ a := by
  apply Nat.le_of_testBit
  intro k hk
  rw [diff_bit] at hk
  simp at hk
  exact hk.1
theorem ne_zero_bit {a : Nat} : a ≠ 0 ↔ ∃ k, a.testBit k = true := by
  constructor
  · intro h
    exact Nat.exists_testBit_of_ne_zero h
  · rintro ⟨k, hk⟩ rfl
    simp at hk
/-- All sets of these states together. -/
def orAll (R : List Nat) (ks : List Nat) : Nat := ks.foldl (fun m k => m ||| R.getD k 0) 0
theorem orAll_snoc (R ks : List Nat) (k : Nat) : orAll R (ks ++ [k]) = orAll R ks ||| R.getD k 0 := by simp [orAll]
theorem orAll_bit (R ks : List Nat) (j : Nat) : (orAll R ks).testBit j = true ↔ ∃ k ∈ ks, (R.getD k 0).testBit j = true := by
  have : ∀ m, (ks.foldl (fun m k => m ||| R.getD k 0) m).testBit j = true ↔ m.testBit j = true ∨ ∃ k ∈ ks, (R.getD k 0).testBit j = true := by
    induction ks with
    | nil => simp
    | cons x r ih =>
      intro m
      rw [List.foldl_cons, ih, Nat.testBit_or]
      simp only [Bool.or_eq_true, List.mem_cons, exists_eq_or_imp]
      exact or_assoc
  simpa [orAll] using this 0
theorem mem_letters {a n k : Nat} : k ∈ letters a n ↔ k < n ∧ a.testBit k = true := by simp [letters]
/-- One letter: the edges from i are answered by those from j. -/
def ansL (both : Bool) (es es' : List Edg) (R : List Nat) (i j l : Nat) : Bool :=
  (letters (succ es i l) 32).all (fun k => !(R.getD k 0 &&& succ es' j l == 0)) && !(both && diff (succ es' j l) (orAll R (letters (succ es i l) 32)) != 0)
def ansB (both : Bool) (es es' : List Edg) (R : List Nat) (i j : Nat) : Bool := (List.range 6).all (ansL both es es' R i j)

theorem rel_getD {R : List Nat} {k j : Nat} (h : (R.getD k 0).testBit j = true) : rel R k j := by
  refine ⟨?_, h⟩
  rcases Nat.lt_or_ge k R.length with h1 | h1
  · exact h1
  · rw [List.getD_eq_getElem?_getD, List.getElem?_eq_none h1] at h
    simp at h
theorem ansB_iff {both : Bool} {m n : Nat} {es es' : List Edg} {R : List Nat} {i j : Nat} (h : Few m es) (h' : Few n es') (hm : m ≤ 16) : ansB both es es' R i j = true ↔ Ok both es es' (rel R) i j := by
  unfold ansB ansL
  simp only [List.all_eq_true, List.mem_range, Bool.and_eq_true, Bool.not_eq_true', mem_letters]
  have hk32 : ∀ {l k : Nat}, (succ es i l).testBit k = true → k < 32 := fun {l k} hk => by
    obtain ⟨e, he, _, h3⟩ := (succ_bit es i l k).1 hk
    have := h e he
    omega
  have hl6 : ∀ {i l k : Nat}, E es i l k → l < 6 := fun {i l k} hk => by
    obtain ⟨e, he, _, h3, _⟩ := hk
    have := h e he
    omega
  have hl6' : ∀ {i l k : Nat}, E es' i l k → l < 6 := fun {i l k} hk => by
    obtain ⟨e, he, _, h3, _⟩ := hk
    have := h' e he
    omega
  constructor
  · intro hA
    refine ⟨fun l k hk => ?_, fun hb l k' hk' => ?_⟩
    · have hk1 := (E_iff h i l k).1 hk
      have h1 := (hA l (hl6 hk)).1 k ⟨hk32 hk1, hk1⟩
      have h2 : R.getD k 0 &&& succ es' j l ≠ 0 := by simpa using h1
      obtain ⟨k', hk'⟩ := ne_zero_bit.1 h2
      rw [Nat.testBit_and, Bool.and_eq_true] at hk'
      exact ⟨k', (E_iff h' j l k').2 hk'.2, rel_getD hk'.1⟩
    · have h1 := (hA l (hl6' hk')).2
      rw [hb, Bool.true_and] at h1
      have h2 : diff (succ es' j l) (orAll R (letters (succ es i l) 32)) = 0 := by simpa using h1
      have h3 := diff_bit (succ es' j l) (orAll R (letters (succ es i l) 32)) k'
      rw [h2, (E_iff h' j l k').1 hk'] at h3
      simp at h3
      obtain ⟨k, hk, hr⟩ := (orAll_bit _ _ _).1 h3
      exact ⟨k, (E_iff h i l k).2 (mem_letters.1 hk).2, rel_getD hr⟩
  · rintro ⟨h1, h2⟩ l hl
    refine ⟨fun k hk => ?_, ?_⟩
    · obtain ⟨k', hk', hr⟩ := h1 l k ((E_iff h i l k).2 hk.2)
      have : R.getD k 0 &&& succ es' j l ≠ 0 := ne_zero_bit.2 ⟨k', by rw [Nat.testBit_and, hr.2, (E_iff h' j l k').1 hk']; rfl⟩
      simpa using this
    · cases hb : both
      · rfl
      · rw [Bool.true_and]
        have : diff (succ es' j l) (orAll R (letters (succ es i l) 32)) = 0 := by
          apply Classical.byContradiction
          intro hne
          obtain ⟨k', hk'⟩ := ne_zero_bit.1 hne
          rw [diff_bit, Bool.and_eq_true] at hk'
          obtain ⟨k, hk, hr⟩ := h2 hb l k' ((E_iff h' j l k').2 hk'.1)
          have hk1 := (E_iff h i l k).1 hk
          have := (orAll_bit R (letters (succ es i l) 32) k').2 ⟨k, mem_letters.2 ⟨hk32 hk1, hk1⟩, hr.2⟩
          rw [this] at hk'
          simp at hk'
        rw [this]; rfl
end Go.Proofs.YtmlembcpamchjaaDoor

namespace Go.Proofs.YtmlembcpamchjaaDoor
open Go Go.RowKit
set_option maxHeartbeats 2000000

theorem Reads.nat {w : World} {lo hi n k : Nat} {A : Option Addr} {l : List Nat} (h : Reads w lo hi 1 A n (nats l)) (hk : k < n) : ∃ ad x, A = some ad ∧ lo ≤ ad.block ∧ ad.block < hi ∧ Hid (l[k]? = some x) ∧ w.cell? (ad.add k) = some (.int .i64 (x : Nat)) := by
  have e : nats l = ints (l.map fun n : Nat => (n : Int)) := by simp [nats, ints]
  rw [e] at h
  obtain ⟨ad, x, ha, hl, hh, hx, hc⟩ := h.int hk
  have hx' := hx.out
  rw [List.getElem?_map] at hx'
  cases hq : l[k]? with
  | none => rw [hq] at hx'; simp at hx'
  | some q =>
    rw [hq] at hx'
    simp at hx'
    exact ⟨ad, q, ha, hl, hh, rfl, by rw [hc, hx']⟩

/-- The block b holds the moves of these edges. -/
def MovAt (w : World) (b : Nat) (es : List Edg) : Prop := ∀ i l : Nat, i < 16 → l < 6 → w.cell? ⟨b, i * 6 + l, none⟩ = some (.int .i64 (succ es i l : Nat))
theorem MovAt.ext {w w' : World} {b : Nat} {es : List Edg} (h : MovAt w b es) (hb : Ext w w') : MovAt w' b es := fun i l hi hl => hb.cell_some (h i l hi hl)

theorem bits_andNot {a b : Nat} (ha : Sm a) (hb : Sm b) : bits .andNot .i64 (a : Int) (b : Int) = (diff a b : Nat) := by
  have h1 := ha.lt; have h2 := hb.lt
  have hd := diff_le a b
  show IntKind.i64.wrap ((BitVec.ofInt 64 (a : Int) &&& ~~~ BitVec.ofInt 64 (b : Int)).toNat : Int) = _
  have e : (BitVec.ofInt 64 (a : Int) &&& ~~~ BitVec.ofInt 64 (b : Int)).toNat = diff a b := by
    apply Nat.eq_of_testBit_eq
    intro k
    rw [diff_bit, BitVec.toNat_and, Nat.testBit_and, i64_toNat a (by omega), BitVec.testBit_toNat, BitVec.getLsbD_not, ← BitVec.testBit_toNat, i64_toNat b (by omega)]
    by_cases hk : k < 64
    · simp [hk]
    · simp only [hk, decide_false, Bool.false_and, Bool.and_false]
      rw [testBit_small ha (by omega)]; rfl
  rw [e, IntKind.wrap_i64]
  omega

theorem impl_answers_f {es es' : List Edg} {bm bn lo hi n c i j k1 k2 : Nat} {A : Option Addr} {R : List Nat} {w : World} (hm : MovAt w bm es) (hn : MovAt w bn es') (hR : Reads w lo hi 1 A n (nats R)) (hs : ∀ r ∈ R, Sm r) (hT : Tab w)
    (hi : i < 16) (hj : j < 16) (h : Few k1 es) (h' : Few k2 es') (hk1 : k1 ≤ 16) (hk2 : k2 ≤ 16) (hl : k1 ≤ R.length) :
    Calls Tryd.prog 70 #[.pointer (some ⟨bm, 0, none⟩), .pointer (some ⟨bn, 0, none⟩), .slice A n c, .int .i64 i, .int .i64 j, .bool false] w fun e w' => e = .returned (.bool (ansB false es es' R i j)) ∧ Ext w w' := by
  have hlen := hide (show R.length = n by have := hR.length; rw [nats_length] at this; omega)
  have hA := hide (show ansB false es es' R i j = (List.range 6).all (ansL false es es' R i j) from rfl)
  have Hs := hide hs
  clear hs
  have hn' := hR.len
  go_enter Tryd.func70, Tryd.ntmps70
  go_wp2
  go_loopw [17] (fun v wr => ∃ l : Nat, l ≤ 6 ∧ v = .int .i64 l ∧ Hid ((List.range l).all (ansL false es es' R i j) = true) ∧ Ext w wr) (fun v _ => 6 - (intOf v).toNat)
  case atStart => exact ⟨0, Nat.zero_le _, rfl, rfl, Ext.refl _⟩
  case round =>
    obtain ⟨l, hl6, rfl, hall, hext⟩ := hrel
    by_cases hlt : l < 6
    · have c1 := (hm.ext hext) i l hi hlt
      have c2 := (hn.ext hext) j l hj hlt
      have s1 := succ_sm h hk1 i l
      have s2 := succ_sm h' hk2 j l
      have hT' := hT.ext hext
      go_wp2_with (go_at_call 47; refine (impl_members _ s1 _ hT').mono ?_; rintro e w1 ⟨B, d, rfl, hown, hx1⟩)
      have hkL := letters_length (succ es i l) 32
      have hkm : ∀ k, k ∈ letters (succ es i l) 32 → k < R.length := fun k hk => by
        obtain ⟨e, he, _, h3⟩ := (succ_bit es i l k).1 (mem_letters.1 hk).2
        have := h e he
        omega
      have Hkm := hide hkm
      clear hkm
      have hL := hide (show ansL false es es' R i j l = ((letters (succ es i l) 32).all (fun k => !(R.getD k 0 &&& succ es' j l == 0)) && !(false && diff (succ es' j l) (orAll R (letters (succ es i l) 32)) != 0)) from rfl)
      have hext1 := hext.trans hx1
      have hrd := hown
      replace hrd := Reads.of_own hrd
      clear hown
      generalize letters (succ es i l) 32 = ks at *
      go_loopw [14, 29] (fun v q wr => ∃ x : Nat, x ≤ ks.length ∧ q = .int .i64 x ∧ ∃ y : Nat, v = .int .i64 y ∧ Sm y ∧ Hid (y = orAll R (ks.take x)) ∧ Hid ((ks.take x).all (fun k => !(R.getD k 0 &&& succ es' j l == 0)) = true) ∧ Ext w1 wr) (fun _ q _ => ks.length - (intOf q).toNat)
      case atStart => exact ⟨0, Nat.zero_le _, rfl, 0, rfl, by unfold Sm; omega, rfl, rfl, Ext.refl _⟩
      case round =>
        obtain ⟨x, hxl, rfl, y, rfl, hy, hyo, hya, hext2⟩ := hrel
        have hw2 := hext1.trans hext2
        have d2 := hext2.cell_some (hx1.cell_some c2)
        by_cases hlx : x < ks.length
        · obtain ⟨ad, k, rfl, _, _, hk, hkc⟩ := (hrd.ext hext2).nat hlx
          have hkn : k < n := by have := Hkm.out k (List.mem_of_getElem? hk.out); have := hlen.out; omega
          obtain ⟨ad', r, rfl, _, _, hr, hrc⟩ := (hR.ext hw2).nat hkn
          have hrs := Hs.out r (List.mem_of_getElem? hr.out)
          have ba := hide (bits_and hrs s2)
          have bo := hide (bits_or hy hrs)
          have hrd' : R.getD k 0 = r := by rw [List.getD_eq_getElem?_getD, hr.out]; rfl
          have Hrd := hide hrd'
          clear hrd'
          have htk := hide (show ks.take (x + 1) = ks.take x ++ [k] by rw [List.take_add_one, hk.out]; rfl)
          by_cases hz : r &&& succ es' j l = 0
          · have hz' : (bits .and .i64 (r : Int) (succ es' j l : Nat) == 0) = true := by rw [ba.out, hz]; rfl
            have Hz := hide hz
            clear hz
            go_wp2
            go_quiet (fail)
            go_wp2
            go_ret
            refine ⟨ret_bool ?_, hw2.drewN _⟩
            have hno : ansL false es es' R i j l = false := by
              rw [hL.out, show ks.all (fun k => !(R.getD k 0 &&& succ es' j l == 0)) = false from ?_]
              · rfl
              · rw [Bool.eq_false_iff]
                intro hc
                have := List.all_eq_true.1 hc k (List.mem_of_getElem? hk.out)
                rw [Hrd.out, Hz.out] at this
                simp at this
            rw [hA.out]
            refine (Bool.eq_false_iff.2 fun hc => ?_).symm
            have := List.all_eq_true.1 hc l (List.mem_range.2 hlt)
            rw [hno] at this
            simp at this
          · have hz' : (bits .and .i64 (r : Int) (succ es' j l : Nat) == 0) = false := by rw [ba.out]; simp; omega
            have Hz := hide hz
            clear hz
            go_wp2
            go_quiet (fail)
            have e1 := (Ext.refl wr).drewN 1
            go_wp2
            go_roundw
            case rel => exact ⟨x + 1, by omega, by go_num, y ||| r, by rw [bo.out], hy.or hrs, by unfold Hid; rw [htk.out, orAll_snoc, ← hyo.out, Hrd.out], by
              have hf : (R.getD k 0 &&& succ es' j l == 0) = false := by rw [Hrd.out]; simpa using Hz.out
              unfold Hid
              rw [htk.out, List.all_append, hya.out]
              simp only [List.all_cons, List.all_nil, hf]; rfl, hext2.drewN _⟩
            case measure => simp [intOf]; omega
        · obtain rfl : x = ks.length := by omega
          rw [List.take_length] at hyo hya
          have bd := hide (bits_andNot s2 hy)
          have hLL := hide (show ansL false es es' R i j l = !(false && diff (succ es' j l) y != 0) by rw [hL.out, hya.out, Bool.true_and, ← hyo.out])
          have hz : (false && diff (succ es' j l) y != 0) = false := rfl
          have hrel : Hid ((List.range (l + 1)).all (ansL false es es' R i j) = true) := by
            unfold Hid
            rw [List.range_succ, List.all_append, hall.out]
            simp only [List.all_cons, List.all_nil, Bool.and_true, Bool.true_and]
            rw [hLL.out, hz]; rfl
          clear hz
          go_wp2
          go_roundw
          case rel => exact ⟨l + 1, by omega, by go_num, hrel, hw2⟩
          case measure => simp [intOf]; omega
    · obtain rfl : l = 6 := by omega
      go_wp2
      go_ret
      exact ⟨ret_bool (by rw [hA.out, hall.out]), hext⟩

theorem impl_answers_t {es es' : List Edg} {bm bn lo hi n c i j k1 k2 : Nat} {A : Option Addr} {R : List Nat} {w : World} (hm : MovAt w bm es) (hn : MovAt w bn es') (hR : Reads w lo hi 1 A n (nats R)) (hs : ∀ r ∈ R, Sm r) (hT : Tab w)
    (hi : i < 16) (hj : j < 16) (h : Few k1 es) (h' : Few k2 es') (hk1 : k1 ≤ 16) (hk2 : k2 ≤ 16) (hl : k1 ≤ R.length) :
    Calls Tryd.prog 70 #[.pointer (some ⟨bm, 0, none⟩), .pointer (some ⟨bn, 0, none⟩), .slice A n c, .int .i64 i, .int .i64 j, .bool true] w fun e w' => e = .returned (.bool (ansB true es es' R i j)) ∧ Ext w w' := by
  have hlen := hide (show R.length = n by have := hR.length; rw [nats_length] at this; omega)
  have hA := hide (show ansB true es es' R i j = (List.range 6).all (ansL true es es' R i j) from rfl)
  have Hs := hide hs
  clear hs
  have hn' := hR.len
  go_enter Tryd.func70, Tryd.ntmps70
  go_wp2
  go_loopw [17] (fun v wr => ∃ l : Nat, l ≤ 6 ∧ v = .int .i64 l ∧ Hid ((List.range l).all (ansL true es es' R i j) = true) ∧ Ext w wr) (fun v _ => 6 - (intOf v).toNat)
  case atStart => exact ⟨0, Nat.zero_le _, rfl, rfl, Ext.refl _⟩
  case round =>
    obtain ⟨l, hl6, rfl, hall, hext⟩ := hrel
    by_cases hlt : l < 6
    · have c1 := (hm.ext hext) i l hi hlt
      have c2 := (hn.ext hext) j l hj hlt
      have s1 := succ_sm h hk1 i l
      have s2 := succ_sm h' hk2 j l
      have hT' := hT.ext hext
      go_wp2_with (go_at_call 47; refine (impl_members _ s1 _ hT').mono ?_; rintro e w1 ⟨B, d, rfl, hown, hx1⟩)
      have hkL := letters_length (succ es i l) 32
      have hkm : ∀ k, k ∈ letters (succ es i l) 32 → k < R.length := fun k hk => by
        obtain ⟨e, he, _, h3⟩ := (succ_bit es i l k).1 (mem_letters.1 hk).2
        have := h e he
        omega
      have Hkm := hide hkm
      clear hkm
      have hL := hide (show ansL true es es' R i j l = ((letters (succ es i l) 32).all (fun k => !(R.getD k 0 &&& succ es' j l == 0)) && !(true && diff (succ es' j l) (orAll R (letters (succ es i l) 32)) != 0)) from rfl)
      have hext1 := hext.trans hx1
      have hrd := hown
      replace hrd := Reads.of_own hrd
      clear hown
      generalize letters (succ es i l) 32 = ks at *
      go_loopw [14, 29] (fun v q wr => ∃ x : Nat, x ≤ ks.length ∧ q = .int .i64 x ∧ ∃ y : Nat, v = .int .i64 y ∧ Sm y ∧ Hid (y = orAll R (ks.take x)) ∧ Hid ((ks.take x).all (fun k => !(R.getD k 0 &&& succ es' j l == 0)) = true) ∧ Ext w1 wr) (fun _ q _ => ks.length - (intOf q).toNat)
      case atStart => exact ⟨0, Nat.zero_le _, rfl, 0, rfl, by unfold Sm; omega, rfl, rfl, Ext.refl _⟩
      case round =>
        obtain ⟨x, hxl, rfl, y, rfl, hy, hyo, hya, hext2⟩ := hrel
        have hw2 := hext1.trans hext2
        have d2 := hext2.cell_some (hx1.cell_some c2)
        by_cases hlx : x < ks.length
        · obtain ⟨ad, k, rfl, _, _, hk, hkc⟩ := (hrd.ext hext2).nat hlx
          have hkn : k < n := by have := Hkm.out k (List.mem_of_getElem? hk.out); have := hlen.out; omega
          obtain ⟨ad', r, rfl, _, _, hr, hrc⟩ := (hR.ext hw2).nat hkn
          have hrs := Hs.out r (List.mem_of_getElem? hr.out)
          have ba := hide (bits_and hrs s2)
          have bo := hide (bits_or hy hrs)
          have hrd' : R.getD k 0 = r := by rw [List.getD_eq_getElem?_getD, hr.out]; rfl
          have Hrd := hide hrd'
          clear hrd'
          have htk := hide (show ks.take (x + 1) = ks.take x ++ [k] by rw [List.take_add_one, hk.out]; rfl)
          by_cases hz : r &&& succ es' j l = 0
          · have hz' : (bits .and .i64 (r : Int) (succ es' j l : Nat) == 0) = true := by rw [ba.out, hz]; rfl
            have Hz := hide hz
            clear hz
            go_wp2
            go_quiet (fail)
            go_wp2
            go_ret
            refine ⟨ret_bool ?_, hw2.drewN _⟩
            have hno : ansL true es es' R i j l = false := by
              rw [hL.out, show ks.all (fun k => !(R.getD k 0 &&& succ es' j l == 0)) = false from ?_]
              · rfl
              · rw [Bool.eq_false_iff]
                intro hc
                have := List.all_eq_true.1 hc k (List.mem_of_getElem? hk.out)
                rw [Hrd.out, Hz.out] at this
                simp at this
            rw [hA.out]
            refine (Bool.eq_false_iff.2 fun hc => ?_).symm
            have := List.all_eq_true.1 hc l (List.mem_range.2 hlt)
            rw [hno] at this
            simp at this
          · have hz' : (bits .and .i64 (r : Int) (succ es' j l : Nat) == 0) = false := by rw [ba.out]; simp; omega
            have Hz := hide hz
            clear hz
            go_wp2
            go_quiet (fail)
            have e1 := (Ext.refl wr).drewN 1
            go_wp2
            go_roundw
            case rel => exact ⟨x + 1, by omega, by go_num, y ||| r, by rw [bo.out], hy.or hrs, by unfold Hid; rw [htk.out, orAll_snoc, ← hyo.out, Hrd.out], by
              have hf : (R.getD k 0 &&& succ es' j l == 0) = false := by rw [Hrd.out]; simpa using Hz.out
              unfold Hid
              rw [htk.out, List.all_append, hya.out]
              simp only [List.all_cons, List.all_nil, hf]; rfl, hext2.drewN _⟩
            case measure => simp [intOf]; omega
        · obtain rfl : x = ks.length := by omega
          rw [List.take_length] at hyo hya
          have bd := hide (bits_andNot s2 hy)
          have hLL := hide (show ansL true es es' R i j l = !(true && diff (succ es' j l) y != 0) by rw [hL.out, hya.out, Bool.true_and, ← hyo.out])
          by_cases hd : diff (succ es' j l) y = 0
          · have hz : (true && diff (succ es' j l) y != 0) = false := by rw [hd]; rfl
            have hz2 : (bits .andNot .i64 (succ es' j l : Nat) (y : Nat) != 0) = false := by rw [bd.out, hd]; rfl
            have hrel : Hid ((List.range (l + 1)).all (ansL true es es' R i j) = true) := by
              unfold Hid
              rw [List.range_succ, List.all_append, hall.out]
              simp only [List.all_cons, List.all_nil, Bool.and_true, Bool.true_and]
              rw [hLL.out, hz]; rfl
            clear hz hd
            go_wp2
            go_roundw
            case rel => exact ⟨l + 1, by omega, by go_num, hrel, hw2⟩
            case measure => simp [intOf]; omega
          · have hz2 : (bits .andNot .i64 (succ es' j l : Nat) (y : Nat) != 0) = true := by rw [bd.out]; simp; omega
            have hno := hLL.out
            rw [show (true && diff (succ es' j l) y != 0) = true by simp [hd]] at hno
            have Hno := hide hno
            clear hno hd
            go_wp2
            go_ret
            refine ⟨ret_bool ?_, hw2⟩
            rw [hA.out]
            refine (Bool.eq_false_iff.2 fun hc => ?_).symm
            have := List.all_eq_true.1 hc l (List.mem_range.2 hlt)
            rw [Hno.out] at this
            simp at this
    · obtain rfl : l = 6 := by omega
      go_wp2
      go_ret
      exact ⟨ret_bool (by rw [hA.out, hall.out]), hext⟩

theorem impl_answers {both : Bool} {es es' : List Edg} {bm bn lo hi n c i j k1 k2 : Nat} {A : Option Addr} {R : List Nat} {w : World} (hm : MovAt w bm es) (hn : MovAt w bn es') (hR : Reads w lo hi 1 A n (nats R)) (hs : ∀ r ∈ R, Sm r) (hT : Tab w)
    (hi : i < 16) (hj : j < 16) (h : Few k1 es) (h' : Few k2 es') (hk1 : k1 ≤ 16) (hk2 : k2 ≤ 16) (hl : k1 ≤ R.length) :
    Calls Tryd.prog 70 #[.pointer (some ⟨bm, 0, none⟩), .pointer (some ⟨bn, 0, none⟩), .slice A n c, .int .i64 i, .int .i64 j, .bool both] w fun e w' => e = .returned (.bool (ansB both es es' R i j)) ∧ Ext w w' := by
  cases both
  · exact impl_answers_f hm hn hR hs hT hi hj h h' hk1 hk2 hl
  · exact impl_answers_t hm hn hR hs hT hi hj h h' hk1 hk2 hl
end Go.Proofs.YtmlembcpamchjaaDoor

namespace Go.Proofs.YtmlembcpamchjaaDoor
open Go Go.RowKit
set_option maxHeartbeats 1000000

theorem wrap_pow2 {t : Nat} (ht : t < 32) : wrap64 ((2 : Int) ^ t) = ((2 ^ t : Nat) : Int) := by
  have hp := (Sm.bit ht).lt
  have e : (2 : Int) ^ t = ((2 ^ t : Nat) : Int) := by simp
  rw [e]
  generalize (2 : Nat) ^ t = p at *
  unfold wrap64
  omega
theorem spec_l1Bit (n : Nat) (hn : n < 32) (w : World) :
    Calls Tryd.prog 29 #[.int .i64 n] w fun e w' => e = .returned (.int .i64 (2 ^ n : Nat)) ∧ w = w' := by
  have hu : IntKind.u64.wrap (n : Int) = n := by rw [IntKind.wrap_u64]; omega
  have h64 : (n : Int) ≤ 64 := by omega
  have hw := hide (wrap_pow2 hn)
  go_enter Tryd.func29, Tryd.ntmps29
  go_wp2
  go_ret
  exact ⟨ret_int (by rw [← hw.out]), rfl⟩

/-- The set that a letter leads to from a set. -/
def stepB (es : List Edg) (set : Nat) (l : Int) : Nat := es.foldl (fun m e => if e.le = l ∧ set.testBit e.fr.toNat = true then m ||| 2 ^ e.to.toNat else m) 0
theorem stepB_snoc (es : List Edg) (e : Edg) (set : Nat) (l : Int) : stepB (es ++ [e]) set l = if e.le = l ∧ set.testBit e.fr.toNat = true then stepB es set l ||| 2 ^ e.to.toNat else stepB es set l := by simp [stepB]
theorem stepB_bit (es : List Edg) (set : Nat) (l : Int) (k : Nat) : (stepB es set l).testBit k = true ↔ ∃ e ∈ es, (e.le = l ∧ set.testBit e.fr.toNat = true) ∧ e.to.toNat = k := by
  have := foldl_bit es (fun e => e.le = l ∧ set.testBit e.fr.toNat = true) 0 k
  simpa [stepB] using this
theorem stepB_lt {n : Nat} {es : List Edg} (h : Few n es) (set : Nat) (l : Int) : stepB es set l < 2 ^ n := by
  apply Nat.lt_pow_two_of_testBit
  intro k hk
  rw [Bool.eq_false_iff]
  intro hb
  obtain ⟨e, he, _, h3⟩ := (stepB_bit es set l k).1 hb
  have := h e he
  omega
theorem stepB_one {n : Nat} {es : List Edg} (h : Few n es) (j : Nat) (l : Int) : stepB es (2 ^ j) l = succ es j l := by
  apply Nat.eq_of_testBit_eq
  intro k
  rw [Bool.eq_iff_iff, stepB_bit, succ_bit]
  constructor
  · rintro ⟨e, he, ⟨h1, h2⟩, h3⟩
    have := h e he
    rw [Nat.testBit_two_pow, decide_eq_true_eq] at h2
    exact ⟨e, he, ⟨by omega, h1⟩, h3⟩
  · rintro ⟨e, he, ⟨h1, h2⟩, h3⟩
    exact ⟨e, he, ⟨h2, by rw [Nat.testBit_two_pow, decide_eq_true_eq]; omega⟩, h3⟩

theorem spec_l2Step {lo hi : Nat} {A : Option Addr} {n c : Nat} {s : Sys} {set : Nat} {l : Int} {k0 : Nat} {w : World} (h : SysAt w lo hi A n s) (hf : Few k0 s.edges) (hk0 : k0 ≤ 16) (hset : Sm set) :
    Calls Tryd.prog 31 #[.agg #[.int .i64 s.al, .int .i64 s.st, .slice A n c], .int .i64 set, .int .i64 l] w fun e w' => e = .returned (.int .i64 (stepB s.edges set l : Nat)) ∧ Ext w w' := by
  have hn := h.2.len
  have hL := hide h.1
  have HR := hide (fun W (hW : Ext w W) => h.2.ext hW)
  have Hf := hide hf
  clear hf
  go_enter Tryd.func31, Tryd.ntmps31
  go_wp2
  go_loopw [7, 8] (fun v i wr => ∃ k : Nat, k ≤ n ∧ i = .int .i64 k ∧ ∃ y : Nat, v = .int .i64 y ∧ Sm y ∧ Hid (y = stepB (s.edges.take k) set l) ∧ Ext w wr ∧ Ext (w.alloc (.cells #[.int .i64 s.al, .int .i64 s.st, .slice A n c] 28)) wr) (fun _ i _ => n - (intOf i).toNat)
  case atStart => exact ⟨0, Nat.zero_le _, rfl, 0, rfl, by unfold Sm; omega, rfl, (Ext.refl _).alloc _, Ext.refl _⟩
  case round =>
    obtain ⟨k, hk, rfl, y, rfl, hy, hyo, hext, hexb⟩ := hrel
    have cb := fun j => ext_box (j := j) hexb
    by_cases hlt : k < n
    · obtain ⟨b, o, x, rfl, _, _, hx, c0, c1, c2⟩ := (HR.out wr hext).edge hlt
      obtain ⟨⟨f0, f1⟩, ⟨g0, g1⟩, ⟨t0, t1⟩⟩ := Hf.out x (List.mem_of_getElem? hx.out)
      have Htk := hide (show s.edges.take (k + 1) = s.edges.take k ++ [x] by rw [List.take_add_one, hx.out]; rfl)
      obtain ⟨f, hfe⟩ : ∃ f : Nat, x.fr = f := ⟨x.fr.toNat, by omega⟩
      obtain ⟨t, hte⟩ : ∃ t : Nat, x.to = t := ⟨x.to.toNat, by omega⟩
      rw [hfe] at c0 f0 f1
      rw [hte] at c2 t0 t1
      have hs1 := hide (stepB_snoc (s.edges.take k) x set l)
      by_cases hle : x.le = l
      · have hle' : (x.le == l) = true := by simp [hle]
        have Hle := hide hle
        clear hle
        cases hb : set.testBit f
        · have Hb := hide hb
          clear hb
          go_wp2_with (go_at_call 32; refine (spec_l1Has set f hset _ (by omega)).mono ?_; rw [Hb.out]; rintro e w' ⟨rfl, rfl⟩)
          go_roundw
          case rel => exact ⟨k + 1, by omega, by go_num, y, rfl, hy, by unfold Hid; rw [Htk.out, hs1.out, if_neg (by rintro ⟨_, h2⟩; rw [hfe] at h2; simp [Hb.out] at h2)]; exact hyo.out, hext, hexb⟩
          case measure => simp [intOf]; omega
        · have Hb := hide hb
          clear hb
          have hor := hide (show bits .or .i64 (y : Nat) ((2 : Int) ^ t) = ((y ||| 2 ^ t : Nat) : Int) by have := bits_or hy (Sm.bit (n := t) (by omega)); rw [show (((2 : Nat) ^ t : Nat) : Int) = (2 : Int) ^ t by simp] at this; exact this)
          go_wp2_with (first
            | (go_at_call 32; refine (spec_l1Has set f hset _ (by omega)).mono ?_; rw [Hb.out]; rintro e w' ⟨rfl, rfl⟩)
            | (go_at_call 29; refine (spec_l1Bit t (by omega) _).mono ?_; rintro e w' ⟨rfl, rfl⟩))
          go_roundw
          case rel => exact ⟨k + 1, by omega, by go_num, y ||| 2 ^ t, by rw [hor.out], hy.or (Sm.bit (by omega)), by unfold Hid; rw [Htk.out, hs1.out, if_pos ⟨Hle.out, by rw [hfe]; simpa using Hb.out⟩, ← hyo.out, hte]; rfl, hext, hexb⟩
          case measure => simp [intOf]; omega
      · have hle' : (x.le == l) = false := by simp [hle]
        have Hle := hide hle
        clear hle
        go_wp2
        go_roundw
        case rel => exact ⟨k + 1, by omega, by go_num, y, rfl, hy, by unfold Hid; rw [Htk.out, hs1.out, if_neg (by rintro ⟨h2, _⟩; exact Hle.out h2)]; exact hyo.out, hext, hexb⟩
        case measure => simp [intOf]; omega
    · obtain rfl : n = k := by omega
      go_wp2
      go_ret
      exact ⟨ret_int (by rw [hyo.out, hL.out, List.take_length]), hext⟩
end Go.Proofs.YtmlembcpamchjaaDoor

namespace Go.Proofs.YtmlembcpamchjaaDoor
open Go Go.RowKit
set_option maxHeartbeats 400000

def cmpI (x y : Int) : Int := if x < y then -1 else if y < x then 1 else 0
theorem cmp_isNaN (x : Int) (w : World) : Calls Tryd.prog 90 #[.int .i64 x] w fun e w' => e = .returned (.bool false) ∧ w = w' := by
  have h : (x != x) = false := by simp
  go_enter Tryd.func90, Tryd.ntmps90
  go_wp2
  go_ret
  exact ⟨ret_bool (by simp), rfl⟩
theorem cmp_Compare (x y : Int) (w : World) : Calls Tryd.prog 63 #[.int .i64 x, .int .i64 y] w fun e w' => e = .returned (.int .i64 (cmpI x y)) ∧ w = w' := by
  by_cases h : x < y
  · go_enter Tryd.func63, Tryd.ntmps63
    go_wp2_with (go_at_call 90; refine (cmp_isNaN _ _).mono ?_; rintro e w' ⟨rfl, rfl⟩)
    go_ret
    exact ⟨ret_int (by unfold cmpI; split <;> omega), rfl⟩
  · by_cases h' : y < x
    all_goals
      go_enter Tryd.func63, Tryd.ntmps63
      go_wp2_with (go_at_call 90; refine (cmp_isNaN _ _).mono ?_; rintro e w' ⟨rfl, rfl⟩)
      go_ret
      exact ⟨ret_int (by unfold cmpI; (repeat' split) <;> omega), rfl⟩

/-- The first number that is not 0. -/
def orI : List Int → Int
  | [] => 0
  | x :: r => if x = 0 then orI r else x
theorem orI_stop {l : List Int} {k : Nat} {x : Int} (h : l[k]? = some x) (hk : ∀ y ∈ l.take k, y = 0) (hx : x ≠ 0) : orI l = x := by
  induction l generalizing k with
  | nil => simp at h
  | cons a r ih =>
    cases k with
    | zero => simp at h; subst h; rw [orI, if_neg hx]
    | succ k =>
      have ha : a = 0 := hk a (by simp)
      rw [orI, if_pos ha]
      exact ih (by simpa using h) (fun y hy => hk y (by simp [hy]))
theorem orI_end {l : List Int} (hk : ∀ y ∈ l, y = 0) : orI l = 0 := by
  induction l with
  | nil => rfl
  | cons a r ih => rw [orI, if_pos (hk a (by simp)), ih fun y hy => hk y (by simp [hy])]

theorem cmp_Or {lo hi : Nat} {A : Option Addr} {n c : Nat} {l : List Int} {w : World} (h : Reads w lo hi 1 A n (ints l)) :
    Calls Tryd.prog 62 #[.slice A n c] w fun e w' => e = .returned (.int .i64 (orI l)) ∧ w = w' := by
  have hn := h.len
  have Hl := hide (show l.length = n by have := h.length; rw [ints_length] at this; omega)
  go_enter Tryd.func62, Tryd.ntmps62
  go_wp2
  go_loop [8] (fun i => ∃ k : Nat, k ≤ n ∧ i = .int .i64 k ∧ Hid (∀ y ∈ l.take k, y = 0)) (fun i => n - (intOf i).toNat)
  case atStart => exact ⟨0, Nat.zero_le _, rfl, hide (by simp)⟩
  case round =>
    obtain ⟨k, hk, rfl, hz⟩ := hrel
    by_cases hlt : k < n
    · obtain ⟨ad, x, rfl, _, _, hx, hc⟩ := h.int hlt
      by_cases h0 : x = 0
      · have hb : ((x : Int) != 0) = false := by simp [h0]
        have H0 := hide h0
        clear h0
        go_wp2
        go_round
        case rel => exact ⟨k + 1, by omega, by go_num, hide (by rw [List.take_add_one, hx.out]; intro y hy; simp at hy; rcases hy with hy | hy; exact hz.out y hy; rw [hy, H0.out])⟩
        case measure => simp [intOf]; omega
      · have hb : ((x : Int) != 0) = true := by simp [h0]
        go_wp2
        go_ret
        exact ⟨ret_int (orI_stop hx.out hz.out h0).symm, rfl⟩
    · obtain rfl : k = n := by omega
      go_wp2
      go_ret
      have := hz.out
      rw [List.take_of_length_le (by have := Hl.out; omega)] at this
      exact ⟨ret_int (orI_end this).symm, rfl⟩

/-- The order of edges, as a number. -/
def cmpE (a b : Edg) : Int := orI [cmpI a.fr b.fr, cmpI a.le b.le, cmpI a.to b.to]
/-- The order of edges. -/
def ltE (a b : Edg) : Bool := if a.fr = b.fr then if a.le = b.le then decide (a.to < b.to) else decide (a.le < b.le) else decide (a.fr < b.fr)
theorem cmpE_lt (a b : Edg) : cmpE a b < 0 ↔ ltE a b = true := by
  have hc : ∀ x y : Int, (cmpI x y = 0 ↔ x = y) ∧ (cmpI x y < 0 ↔ x < y) := fun x y => by unfold cmpI; constructor <;> (repeat' split) <;> omega
  have h1 := hc a.fr b.fr
  have h2 := hc a.le b.le
  have h3 := hc a.to b.to
  have hv : cmpE a b = if cmpI a.fr b.fr = 0 then if cmpI a.le b.le = 0 then if cmpI a.to b.to = 0 then 0 else cmpI a.to b.to else cmpI a.le b.le else cmpI a.fr b.fr := rfl
  rw [hv, ltE]
  by_cases e1 : a.fr = b.fr
  · rw [if_pos (h1.1.2 e1), if_pos e1]
    by_cases e2 : a.le = b.le
    · rw [if_pos (h2.1.2 e2), if_pos e2]
      by_cases e3 : cmpI a.to b.to = 0
      · rw [if_pos e3]; have := h3.1.1 e3; simp; omega
      · rw [if_neg e3, h3.2]; simp
    · rw [if_neg (fun h => e2 (h2.1.1 h)), if_neg e2, h2.2]; simp
  · rw [if_neg (fun h => e1 (h1.1.1 h)), if_neg e1, h1.2]; simp

/-- A slice that a literal has just laid. -/
theorem reads_lit {w w' : World} {cs : Array Value} {t : TypeId} (n : Nat) (l : List Int) (hc : cs.toList = ints l) (hl : l.length = n) (hn : n ≤ 1000) (h : Ext (w.alloc (.cells cs t)) w') : Reads w' 0 w'.heap.size 1 (some ⟨w.heap.size, 0, none⟩) n (ints l) := by
  have hb := ext_blk1 h
  refine ⟨by rw [ints_length]; omega, by omega, fun _ => ⟨_, rfl, Nat.zero_le _, hb.lt, fun j u hu => ?_⟩⟩
  rw [addr_lit, Nat.zero_add, hb.cell, ← Array.getElem?_toList, hc]
  exact hu

theorem impl_compareEdges {a b : Edg} {w : World} :
    Calls Tryd.prog 36 #[.agg #[.int .i64 a.fr, .int .i64 a.le, .int .i64 a.to], .agg #[.int .i64 b.fr, .int .i64 b.le, .int .i64 b.to]] w fun e w' => e = .returned (.int .i64 (cmpE a b)) ∧ Ext w w' := by
  go_enter Tryd.func36, Tryd.ntmps36
  go_wp2_with fail
  obtain ⟨W, hW⟩ : ∃ W : World, W = (w.alloc (.cells #[Value.int .i64 a.fr, .int .i64 a.le, .int .i64 a.to] 52)).alloc (.cells #[Value.int .i64 b.fr, .int .i64 b.le, .int .i64 b.to] 52) := ⟨_, rfl⟩
  have hx : Ext w W := by rw [hW]; exact ((Ext.refl _).alloc _).alloc _
  have h2 := ext_blk2 (show Ext ((w.alloc (.cells #[Value.int .i64 a.fr, .int .i64 a.le, .int .i64 a.to] 52)).alloc (.cells #[Value.int .i64 b.fr, .int .i64 b.le, .int .i64 b.to] 52)) W by rw [hW]; exact Ext.refl _)
  have e0 : ∀ X, Ext W X → ∀ j, X.cell? ⟨w.heap.size, j, none⟩ = #[Value.int .i64 a.fr, .int .i64 a.le, .int .i64 a.to][j]? := fun X hX => (h2.1.ext hX).cell
  have e1 : ∀ X, Ext W X → ∀ j, X.cell? ⟨w.heap.size + 1, j, none⟩ = #[Value.int .i64 b.fr, .int .i64 b.le, .int .i64 b.to][j]? := fun X hX => (h2.2.ext hX).cell
  rw [← hW]
  have hr := Ext.refl W
  clear hW h2
  go_region_held3 (fun X => Ext W X) (first | assumption | (refine Ext.drew ?_; assumption) | (refine Ext.alloc ?_ _; assumption) | (refine Ext.drew ?_; refine Ext.alloc ?_ _; assumption) | (refine Ext.trans ?_ (by assumption); assumption)) (first | (go_at_call 63; refine (cmp_Compare _ _ _).mono ?_; rintro e w' ⟨rfl, rfl⟩) | (go_at_call 62; refine (cmp_Or (reads_lit 3 [cmpI a.fr b.fr, cmpI a.le b.le, cmpI a.to b.to] rfl rfl (by omega) ((Ext.refl _).drew))).mono ?_; rintro e w' ⟨rfl, rfl⟩))
  all_goals (go_wp2_with fail; go_ret; exact ⟨rfl, hx.trans (by first | assumption | (refine Ext.drew ?_; assumption) | (refine Ext.alloc ?_ _; assumption) | (refine Ext.drew ?_; refine Ext.alloc ?_ _; assumption))⟩)
end Go.Proofs.YtmlembcpamchjaaDoor
