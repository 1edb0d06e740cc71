/- A region that draws its order, walked in one order: whatever reads is taken first, what makes memory comes up alone. It holds of every program, without conditions. -/
import Derived.Test.YtekobefenngedaaBase
import Derived.OrdersHeld
namespace Go.Proofs.Ytekobefenngedaa
open Go Go.RowKit

/-- Operations that only read. -/
def quietOp : Op → Bool
  | .move _ | .assign _ | .pick _ _ _ | .binOp _ _ _ _ _ | .unOp _ _ _ | .load _ _ | .fieldAddr _ _ _ | .field _ _ _ | .indexAddr _ _ _ | .index _ _ _ | .extract _ _ | .build _ _ | .slice _ _ _ _ _ | .convert _ _ _ => true
  | .call { callee := .builtin .len, .. } => true
  | .call { callee := .builtin .cap, .. } => true
  | _ => false

/-- The order o of the region l is one that serves: each comes up when it may; what reads is apart from what is still to come; what does not comes up alone. -/
def okOrd (l : List Oper) : List Nat → Array Bool → Bool
  | [], listed => (Region.ready .any l.toArray listed).isEmpty
  | i :: rest, listed =>
    (match l[i]? with
      | some o => if quietOp o.op then Region.free .any l.toArray listed i && (Region.ready .any l.toArray listed).contains i else Region.ready .any l.toArray listed == [i]
      | none => false) && okOrd l rest (listed.setIfInBounds i true)

def wpSeq (P : Program) (l : List Oper) (Q : Exit → Act → World → Prop) (S : World → Prop) : List Nat → Act → World → Prop
  | [], a, w => Q .normal a w
  | i :: rest, a, w => match l[i]? with
    | some o => if quietOp o.op then ∃ v, YieldsIf P l.toArray S o v a ∧ S w ∧ wpSeq P l Q S rest (a.put o.dst v) w
      else wpOp P l.toArray Q i (fun a' w' => S w' ∧ wpSeq P l Q S rest a' w') a w
    | none => False

section
variable {P : Program} {l : List Oper} {Q : Exit → Act → World → Prop} {S : World → Prop}

theorem seq_sound (hs : Region.noSelect l.toArray = true) (hQ : ∀ (c : List PanicEntry) (a : Act) (d : Tmp) (v : Value) (w : World), Q (.panic c) (a.put (some d) v) w → Q (.panic c) a w) :
    ∀ (ord : List Nat) (listed : Array Bool) (a : Act) (w : World), okOrd l ord listed = true → wpSeq P l Q S ord a w → wpAnyH P .any l.toArray Q S ord.length listed a w
  | [], listed, a, w, hok, h => by
    simp only [okOrd, List.isEmpty_iff] at hok
    exact wpAnyH_done hok h 0
  | i :: rest, listed, a, w, hok, h => by
    cases ho : l[i]? with
    | none => simp [okOrd, ho] at hok
    | some o =>
      simp only [okOrd, ho, Bool.and_eq_true] at hok
      simp only [wpSeq, ho] at h
      by_cases hq : quietOp o.op = true
      · rw [if_pos hq] at hok h
        simp only [Bool.and_eq_true] at hok
        obtain ⟨v, hy, hS, hr⟩ := h
        exact wpAnyH_take (by simpa using ho) hs hok.1.1 hok.1.2 (fun c a w h => by cases hd : o.dst with | none => rw [hd] at h; exact h | some d => rw [hd] at h; exact hQ c a d v w h) hy hS (seq_sound hs hQ rest _ _ _ hok.2 hr)
      · rw [if_neg hq] at hok h
        refine wpAnyH_all (rs := [i]) (by simpa using hok.1) (by simp) fun j hj => ?_
        rw [List.mem_singleton.1 hj]
        exact wpOp_mono (fun a' w' h => ⟨h.1, seq_sound hs hQ rest _ _ _ hok.2 h.2⟩) h

theorem wp_region_ord {id : Nat} {a : Act} {w : World} (S : World → Prop) (ord : List Nat) (hm : P.follows .mixedOrders = true) (hlen : ord.length = l.length) (hs : Region.noSelect l.toArray = true) (hok : okOrd l ord (Array.replicate l.length false) = true)
    (hQ : ∀ (c : List PanicEntry) (a : Act) (d : Tmp) (v : Value) (w : World), Q (.panic c) (a.put (some d) v) w → Q (.panic c) a w) (hS : S w.drew) (h : S w.drew → wpSeq P l Q S ord a w.drew) : (Code.region id l.toArray true).wp P Q a w := by
  refine wp_region_held (S := S) hm ?_
  have := seq_sound hs hQ ord _ a w.drew hok (h hS)
  rw [hlen] at this
  simpa using this

theorem seq_nil {a : Act} {w : World} (h : Q .normal a w) : wpSeq P l Q S [] a w := h
/-- A step that reads. -/
theorem seq_read {i : Nat} {rest : List Nat} {o : Oper} {v : Value} {a : Act} {w : World} (ho : l[i]? = some o) (hq : quietOp o.op = true) (hw : Region.wanted o (yielded l.toArray a.tmps) = true)
    (hy : ∀ W, S W → (execOp a.eval o).run P W = .ok (.value v) W) (hS : S w) (h : wpSeq P l Q S rest (a.put o.dst v) w) : wpSeq P l Q S (i :: rest) a w := by
  simp only [wpSeq, ho, hq, if_true]
  exact ⟨v, .inl ⟨hw, hy⟩, hS, h⟩
/-- A step whose guard is off. -/
theorem seq_skip {i : Nat} {rest : List Nat} {o : Oper} {a : Act} {w : World} (ho : l[i]? = some o) (hw : Region.wanted o (yielded l.toArray a.tmps) = false)
    (hS : S w) (h : wpSeq P l Q S rest (a.put o.dst undef) w) : wpSeq P l Q S (i :: rest) a w := by
  simp only [wpSeq, ho]
  split
  · exact ⟨undef, .inr ⟨hw, rfl⟩, hS, h⟩
  · unfold wpOp
    simp only [List.getElem?_toArray, ho, hw, Bool.false_eq_true, if_false]
    exact ⟨hS, h⟩
/-- A step that makes memory, or calls. -/
theorem seq_step {i : Nat} {rest : List Nat} {o : Oper} {a : Act} {w : World} (ho : l[i]? = some o) (hq : quietOp o.op = false) (hw : Region.wanted o (yielded l.toArray a.tmps) = true)
    (h : ∀ K : Act → World → Prop, Shut (∀ a w, S w → (S w → wpSeq P l Q S rest a w) → K a w) → o.wp P a w K Q) : wpSeq P l Q S (i :: rest) a w := by
  simp only [wpSeq, ho, hq]
  unfold wpOp
  simp only [List.getElem?_toArray, ho, hw, if_true]
  exact .inl (h _ fun a w hS hW => ⟨hS, hW hS⟩)
end
end Go.Proofs.Ytekobefenngedaa
