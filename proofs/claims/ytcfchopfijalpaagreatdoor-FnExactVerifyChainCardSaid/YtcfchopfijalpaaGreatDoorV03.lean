/- A region tha -/
import Derived.Deep.DeepCutAuto
import Derived.Test.YtcfchopfijalpaaGreatDoorV02
import Derived.Deep.CutBlock
import Derived.Shelf.RegionOpenPlain
import Derived.Deep.LoopGhost
import Derived.Sort.WalkB12
import Derived.Lib.SlicesMore
import Derived.Laws.BytesArg
set_option maxHeartbeats 4000000
set_option maxRecDepth 100000
namespace Go.Proofs.YtcfchopfijalpaaGreatDoor
open Go Go.RowKit
open Blk renaming new->eX
open Bool renaming and_eq_true->eG,eq_false_iff->fQ,or_eq_true->gO
open Ext renaming drew->fW,refl->dB
open Frm renaming setCell->eC
open Int renaming natCast_mul->gK
open List renaming append_nil->gW,drop_eq_getElem_cons->gH,drop_of_length_le->gY,getD_eq_getElem?_getD->eF,getElem?_append_left->eI,getElem?_append_right->eM,getElem?_eq_getElem->dC,getElem?_eq_none->eP,getElem?_map->eL,getElem?_of_mem->eT,getElem?_toArray->fP,length_append->eO,length_map->eQ,length_take->fH,map_append->fB,mem_of_getElem?->eB,mem_of_mem_take->gU,pairwise_lt_range->kA,replicate->eN,take_add_one->eH,take_length->fI,take_of_length_le->eE
open Nat renaming eq_of_testBit_eq->gI,le_refl->eA,le_trans->eJ,lt_of_lt_of_le->eU,lt_or_ge->fK,lt_trichotomy->fY,mul_le_mul->fX,sub_self->fO,zero_add->eS,zero_le->eD
open Option renaming toList_some->e7
variable {A AA PA SA:Option Addr} {G K L:Int} {N ac an b base c cap g hi hi' i id j k k0 kg l lo lo' m n off p pc pn q sc x:Nat} {S T:Nat->Prop} {W W' w w' w0:World} {a:Act} {bs fr ns st sz:List Nat} {capg cs:Array Value} {e t:TypeId} {es:List Edg} {s:Sys} {ss:List Sys} {sv v:Value}
section
variable {P:Program} {ops:Array Oper} {Q:Exit->Act->World->Prop} {md:Region.Mode} {S:Array Bool->World->Prop}
def wpAnyL (P:Program) (md:Region.Mode) (ops:Array Oper) (Q:Exit->Act->World->Prop) (S:Array Bool->World->Prop):Nat->Array Bool->Act->World->Prop
 |0,listed,a,w=>Region.ready md ops listed=[]∧Q .normal a w
 |fuel+1,listed,a,w =>
  (Region.ready md ops listed=[]->Q .normal a w) ∧
  ∀ i∈Region.ready md ops listed,wpOp P ops Q i (fun a' w'=>S (listed.setIfInBounds i true) w'∧wpAnyL P md ops Q S fuel (listed.setIfInBounds i true) a' w') a w
theorem zif:∀ (fuel:Nat) (listed:Array Bool) (a:Act) (w:World),wpAnyL P md ops Q S fuel listed a w->wpAny P md ops Q fuel listed a w
 |0,_,_,_,h=>h
 |fuel+1,_,_,_,h=>⟨h.1,fun i hi=>wpOp_mono (fun a' w' h'=>zif fuel _ a' w' h'.2) (h.2 i hi)⟩
theorem wpAnyL_first {oi:Oper}  {Si:World->Prop} {G:Array Bool->Prop}(hi:ops[i]?=some oi)(hsel:∀ (j:Nat) (o:Oper) cs b,ops[j]?=some o->o.op≠.select cs b)
  (hQ:∀ c a w,Q (.panic c) (a.put oi.dst v) w->Q (.panic c) a w)
  (hG:∀ listed j,j∈Region.ready md ops listed->G listed->G (listed.setIfInBounds j true))
  (hSi:∀ listed w,G listed->listed.getD i true=false->S listed w->Si w)
  (hup:∀ listed w,S listed w->S (listed.setIfInBounds i true) w) (hdn:∀ listed w,listed.getD i true=false->S (listed.setIfInBounds i true) w->S listed w) :
  ∀ (fuel:Nat) (listed:Array Bool) (a:Act) (w:World),G listed ->
   (∀ j oj,ops[j]?=some oj->j≠i->listed.getD j true=false->(∀ e∈oj.after,Region.binds md e=true->e.on≠i)->oi.apart ops oj=true) ->
   i∈Region.ready md ops listed->YieldsIf P ops Si oi v a->S listed w ->
   wpAnyL P md ops Q S fuel (listed.setIfInBounds i true) (a.put oi.dst v) w->wpAnyL P md ops Q S (fuel+1) listed a w:=by
 intro fuel
 induction fuel with
 |zero =>
  intro listed a w hg _ hr hy hS H;refine⟨fun h=>(by rw [h] at hr;cases hr),fun j hj=>?_⟩
  by_cases hji:j=i
  ·subst hji;exact hy.wpOp hi (hSi _ _ hg (mem_ready.1 hr).1 hS) ⟨hup _ _ hS,H⟩
  ·have:=ready_mono hj hji;rw [H.1] at this;cases this
 |succ fuel ih =>
  intro listed a w hg hfree hr hy hS H;refine⟨fun h=>(by rw [h] at hr;cases hr),fun j hj=>?_⟩
  by_cases hji:j=i
  ·subst hji;exact hy.wpOp hi (hSi _ _ hg (mem_ready.1 hr).1 hS) ⟨hup _ _ hS,H⟩
  ·have g:=H.2 j (ready_mono hj hji);obtain⟨f,oj,l,m⟩:=mem_ready.1 hj;have p:∀ e∈oj.after,Region.binds md e=true->e.on≠i:=fun e he hb heq=>by
    have g:=m e he hb;have r:=(mem_ready.1 hr).1;rw [heq] at g;rcases fK i listed.size with q | q
    ·simp [q] at r g;rw [r] at g;cases g
    ·simp [Array.getElem?_eq_none q] at g
   have t:=wpOp_putIf l (hfree j oj l hji f p) (fun cs b=>hsel i oi cs b hi) (fun cs b=>hsel j oj cs b l) hQ hy g;have d:∀ k ok,ops[k]?=some ok->k≠i->(listed.setIfInBounds j true).getD k true=false ->
     (∀ e∈ok.after,Region.binds md e=true->e.on≠i)->oi.apart ops ok=true:=fun k ok hk hki hun hno=>by
    refine hfree k ok hk hki ?_ hno
    by_cases hjk:j=k
    ·subst hjk;exact f
    ·rw [getD_set_ne true hjk] at hun;exact hun
   have n:(listed.setIfInBounds j true).getD i true=false:=by
    rw [getD_set_ne true hji];exact (mem_ready.1 hr).1
   refine wpOp_mono (fun a' w' h3=>?_) t;have s:S (listed.setIfInBounds j true) w':=hdn _ _ n (by rw [Array.setIfInBounds_comm _ _ hji];exact h3.2.1);refine⟨s,ih (listed.setIfInBounds j true) a' w' (hG _ _ hj hg) d (ready_mono hr (Ne.symm hji)) h3.1 s ?_⟩;rw [Array.setIfInBounds_comm _ _ hji];exact h3.2.2
end
def Clo (l:List Oper) (listed:Array Bool):Prop:=∀ j,listed.getD j false=true->∀ o,l[j]?=some o->∀ e∈o.after,Region.binds .any e=true->listed.getD e.on false=true
def below (l:List Oper):Nat->Nat->Nat->Bool
 |0,_,_=>false
 |f+1,t,i=>match l[t]? with
  |some o=>o.after.any fun e=>Region.binds .any e&&(e.on==i || below l f e.on i)
  |none=>false
theorem zhG {l:List Oper} {listed:Array Bool}(hc:Clo l listed):∀ (f t i:Nat),below l f t i=true->listed.getD t false=true->listed.getD i false=true
 |0,_,_,h,_=>by simp [below] at h
 |f+1,t,i,h,ht=>by
  unfold below at h
  cases ho:l[t]? with
  |none=>simp [ho] at h
  |some o =>
   simp only [ho] at h
   obtain⟨e,he,hb⟩:=Array.any_eq_true'.1 h
   simp only [eG,gO,beq_iff_eq] at hb
   have h1:=hc t ht o ho e he hb.1
   rcases hb.2 with h2|h2
   ·rw [← h2];exact h1
   ·exact zhG hc f e.on i h2 h1
theorem zcJ {l:List Oper} {listed:Array Bool} (hj:j∈Region.ready .any l.toArray listed)(h:Clo l listed):Clo l (listed.setIfInBounds j true):=by
 intro k hk o ho e he hb
 by_cases hkj:j=k
 ·subst hkj;obtain⟨_,d,b,a⟩:=mem_ready.1 hj;have:d=o:=by
   have c:l[j]?=some d:=by simpa using b
   rw [ho] at c;exact (Option.some.inj c).symm
  subst this;exact getD_set_true (a e he hb)
 ·rw [getD_set_ne false hkj] at hk;exact getD_set_true (h k hk o ho e he hb)
section
variable {P:Program} {l:List Oper} {Q:Exit->Act->World->Prop} {S:World->Prop} {T:List Nat}
def zhj (T:List Nat) (listed:Array Bool):Prop:=∃ t∈T,listed.getD t false=true
theorem clo_start (l:List Oper):Clo l (Array.replicate l.length false):=by
 intro j hj;exfalso;rcases fK j l.length with h|h
 ·simp [h] at hj
 ·simp [Nat.not_lt.2 h] at hj
end
theorem zbT {P:Program} (wb w:World) {o:Oper}  {K:Act->World->Prop} {Q:Exit->Act->World->Prop} (s x:Operand) (t:TypeId)
  (ho:o.op=.call { callee:=.builtin .append,args:=#[s,x],argTypes:=#[t,t] })
  (e:TypeId) (z:Value) (size bytes:Nat) (ht:P.underlying t=some (.slice e)) (hi:(P.info? e).map (fun i=>(i.zero,i.size,i.bytes))=some (some z,size,bytes)) (hzs:z.cells.size=size) (hsz:0<size)
  (v:Value) (n:Nat) (xs:List Value) (us:Array Value) (e':TypeId) (hs:a.eval s=v) (hx:a.eval x=.slice (some w.heap.size) 1 1)
  (zje:wb.heap.size<=w.heap.size) (zjc:w.ownsRow wb.heap.size e size v n xs) (hus:us.size=size) (h1:∀ u∈us.toList,u.oneCell'=true)
  (h63:n+1<=maxLen) (hbytes:(n+1)*bytes<=140737488355328)
  (h:∀ g cap w',w'.ownsRow wb.heap.size e size (.slice (some ⟨g,0,none⟩) (n+1) cap) (n+1) (xs++us.toList)->w.grownBy w' v.ownBlock->(v.ownBlock=some g∨g=w.heap.size+1)->g<w'.heap.size->K (a.put o.dst (.slice (some ⟨g,0,none⟩) (n+1) cap)) w') :
  o.wp P a (w.alloc (.cells us e')) K Q:=by
 obtain⟨i,c,d,f,l⟩:=info_parts hi;refine wp_append_lies (w.alloc (.cells us e')) s x t ho wb.heap.size e i z size bytes ht c d f l hzs hsz v n xs hs (zjc.alloc _) ⟨w.heap.size,0,none⟩ 1 1 us.toList hx (by simpa using hus) ?_ h1 oM h63 hbytes (by simp;omega) (w.heap.size+1) sM ?_
 ·intro j u hu;rw [zaI,eS,(eX w e' us).cell];simpa using hu
 ·intro g cap w' hown' hg hat hlt;have b:w.grownBy w' v.ownBlock:=⟨hg.os,hg.tape,hg.output,eJ sM hg.size,fun k hk hne=>(hg.block k (by simp;omega) hne).trans (Below.heap_alloc w _ k hk)⟩;exact h g cap w' hown' b hat hlt
theorem zbe {P:Program} (wb w:World) {ops:Array Oper} {rest:List Oper} {o:Oper}  {Q:Exit->Act->World->Prop}(hgd:o.guard=none) (s x:Operand) (t:TypeId)
  (ho:o.op=.call { callee:=.builtin .append,args:=#[s,x],argTypes:=#[t,t] })
  (e:TypeId) (z:Value) (size bytes:Nat) (ht:P.underlying t=some (.slice e)) (hi:(P.info? e).map (fun i=>(i.zero,i.size,i.bytes))=some (some z,size,bytes)) (hzs:z.cells.size=size) (hsz:0<size)
  (v:Value) (n:Nat) (xs:List Value) (us:Array Value) (e':TypeId) (hs:a.eval s=v) (hx:a.eval x=.slice (some w.heap.size) 1 1)
  (zje:wb.heap.size<=w.heap.size) (zjc:w.ownsRow wb.heap.size e size v n xs) (hus:us.size=size) (h1:∀ u∈us.toList,u.oneCell'=true)
  (h63:n+1<=maxLen) (hbytes:(n+1)*bytes<=140737488355328)
  (h:∀ g cap w',w'.ownsRow wb.heap.size e size (.slice (some ⟨g,0,none⟩) (n+1) cap) (n+1) (xs++us.toList)->w.grownBy w' v.ownBlock->(v.ownBlock=some g∨g=w.heap.size+1)->g<w'.heap.size->wpList P ops Q rest (a.put o.dst (.slice (some ⟨g,0,none⟩) (n+1) cap)) w') :
  wpList P ops Q (o :: rest) a (w.alloc (.cells us e')):=
 wpList_plain hgd fun _ hK=>zbT wb w s x t ho e z size bytes ht hi hzs hsz v n xs us e' hs hx zje zjc hus h1 h63 hbytes fun g cap w' h2 h3 h4 h5=>hK _ _ (h g cap w' h2 h3 h4 h5)
def zfN:Op->Bool
 |.makeFunc _ _ _ | .move _ | .assign _ | .pick _ _ _ | .binOp _ _ _ _ _ | .unOp _ _ _ | .fieldAddr _ _ _ | .field _ _ _ | .extract _ _ | .build _ _=>true
 |_=>false
def zcT:Op->Bool
 |.makeFunc _ _ _=>true
 |o=>zfO o
inductive zu where
 |nil:zu
 |one:Nat->zu->zu
 |two:Nat->zu->Nat->zu->zu
 |three:Nat->zu->Nat->zu->Nat->zu->zu
def zu.of:List Nat->zu
 |[]=>.nil
 |i :: r=>.one i (zu.of r)
def zu.app:List Nat->zu->zu
 |[],o=>o
 |i :: r,o=>.one i (zu.app r o)
def zcN (l:List Oper) (T:List Nat):zu->Array Bool->Bool
 |.nil,listed=>(Region.ready .any l.toArray listed).isEmpty
 |.one i rest,listed =>
  (match l[i]? with
   |some o=>if zcT o.op then Region.free .any l.toArray listed i&&(Region.ready .any l.toArray listed).contains i&&!T.contains i&&(zfN o.op || T.all fun t=>below l l.length t i)
    else Region.ready .any l.toArray listed==[i]
   |none=>false)&&zcN l T rest (listed.setIfInBounds i true)
 |.two i r j r',listed=>(i<l.length&&j<l.length&&Region.ready .any l.toArray listed==[i,j])&&(zcN l T r (listed.setIfInBounds i true)&&zcN l T r' (listed.setIfInBounds j true))
 |.three i r j r' k r'',listed=>(i<l.length&&j<l.length&&k<l.length&&Region.ready .any l.toArray listed==[i,j,k])&&(zcN l T r (listed.setIfInBounds i true)&&zcN l T r' (listed.setIfInBounds j true)&&zcN l T r'' (listed.setIfInBounds k true))
def zag (P:Program) (l:List Oper) (T:List Nat) (Q:Exit->Act->World->Prop) (S:World->Prop):zu->Act->World->Prop
 |.nil,a,w=>Q .normal a w
 |.one i rest,a,w=>match l[i]? with
  |some o=>if zcT o.op then ∃ v,YieldsIf P l.toArray (if zfN o.op then fun _=>True else S) o v a∧zag P l T Q S rest (a.put o.dst v) w
   else wpOp P l.toArray Q i (fun a' w'=>(T.contains i=false->S w')∧zag P l T Q S rest a' w') a w
  |none=>False
 |.two i r j r',a,w=>wpOp P l.toArray Q i (fun a' w'=>(T.contains i=false->S w')∧zag P l T Q S r a' w') a w∧wpOp P l.toArray Q j (fun a' w'=>(T.contains j=false->S w')∧zag P l T Q S r' a' w') a w
 |.three i r j r' k r'',a,w=>wpOp P l.toArray Q i (fun a' w'=>(T.contains i=false->S w')∧zag P l T Q S r a' w') a w∧wpOp P l.toArray Q j (fun a' w'=>(T.contains j=false->S w')∧zag P l T Q S r' a' w') a w∧wpOp P l.toArray Q k (fun a' w'=>(T.contains k=false->S w')∧zag P l T Q S r'' a' w') a w
def zu.len:zu->Nat
 |.nil=>0
 |.one _ r=>r.len+1
 |.two _ r _ _=>r.len+1
 |.three _ r _ _ _ _=>r.len+1
def zu.even:zu->Bool
 |.nil=>true
 |.one _ r=>r.even
 |.two _ r _ r'=>r.len==r'.len&&(r.even&&r'.even)
 |.three _ r _ r' _ r''=>(r.len==r'.len&&r.len==r''.len)&&(r.even&&r'.even&&r''.even)
section
variable {P:Program} {l:List Oper} {Q:Exit->Act->World->Prop} {S:World->Prop} {T:List Nat}
theorem zbE (hs:Region.noSelect l.toArray=true)(hQ:∀ (c:List PanicEntry) (a:Act) (d:Tmp) (v:Value) (w:World),Q (.panic c) (a.put (some d) v) w->Q (.panic c) a w) :
  ∀ (ord:zu) (listed:Array Bool) (a:Act) (w:World),listed.size=l.length->Clo l listed->ord.even=true->zcN l T ord listed=true->(zhj T listed∨S w)->zag P l T Q S ord a w ->
   wpAnyL P .any l.toArray Q (fun listed w=>zhj T listed∨S w) ord.len listed a w
 |.nil,listed,a,w,_,_,_,hok,_,h=>by
  simp only [zcN,List.isEmpty_iff] at hok;exact⟨hok,h⟩
 |.one i rest,listed,a,w,hsz,hc,hev,hok,hS,h=>by
  cases ho:l[i]? with
  |none=>simp [zcN,ho] at hok
  |some o =>
   have hil:i<l.length:=(List.getElem?_eq_some_iff.1 ho).1;simp only [zcN,ho,eG] at hok;simp only [zag,ho] at h
   by_cases hq:zcT o.op=true
   ·rw [if_pos hq] at hok h;simp only [eG] at hok;obtain⟨⟨⟨⟨hf,hrd⟩,hnT⟩,hpure⟩,hrest⟩:=hok;obtain⟨v,hy,hr⟩:=h;have hmem:i∈Region.ready .any l.toArray listed:=by simpa using hrd
    have D:i∉T:=by simpa using hnT
    have p:∀ listed:Array Bool,zhj T (listed.setIfInBounds i true)↔zhj T listed:=fun listed=>by
     constructor
     ·rintro ⟨t,z,C⟩;refine⟨t,z,?_⟩;rwa [getD_set_ne false (by rintro rfl;exact D z)] at C
     ·rintro ⟨t,z,C⟩;exact⟨t,z,getD_set_true C⟩
    refine wpAnyL_first (G:=fun listed=>Clo l listed∧listed.size=l.length) (by simpa using ho) (Region.noSelect_spec hs)
     (fun c a w h=>by cases hd:o.dst with|none=>rw [hd] at h;exact h|some d=>rw [hd] at h;exact hQ c a d v w h)
     (fun li j s hg=>⟨zcJ s hg.1,by simpa using hg.2⟩) ?_ (fun li w h=>h.imp (fun x=>(p li).2 x) id) (fun li w _ h=>h.imp (fun x=>(p li).1 x) id)
     rest.len listed a w ⟨hc,hsz⟩ (Region.free_spec (by simpa using ho) hf) hmem hy hS ?_
    ·intro li w' hg hun h
     by_cases hp:zfN o.op=true
     ·rw [if_pos hp];trivial
     ·rw [if_neg hp];rcases h with ⟨t,z,C⟩|h
      ·exfalso;simp only [hp,Bool.false_or] at hpure;have M:=List.all_eq_true.1 hpure t z;have H:=zhG hg.1 _ _ _ M C;have L:i<li.size:=by rw [hg.2];exact hil
       simp [L] at hun H;rw [H] at hun;cases hun
      ·exact h
    ·exact zbE hs hQ rest _ _ _ (by simpa using hsz) (zcJ hmem hc) hev hrest (hS.imp (fun x=>(p _).2 x) id) hr
   ·rw [if_neg hq] at hok h;have b:Region.ready .any l.toArray listed=[i]:=by simpa using hok.1
    have hmem:i∈Region.ready .any l.toArray listed:=by rw [b];simp
    refine⟨fun h0=>(by rw [h0] at b;cases b),fun j s=>?_⟩;rw [b] at s;rw [List.mem_singleton.1 s];refine wpOp_mono (fun a' w' h=>?_) h;have f:zhj T (listed.setIfInBounds i true)∨S w':=by
     cases hT:T.contains i
     ·exact Or.inr (h.1 hT)
     ·refine Or.inl ⟨i,by simpa using hT,?_⟩;have:i<listed.size:=oM;simp [this]
    exact⟨f,zbE hs hQ rest _ _ _ (by simpa using hsz) (zcJ hmem hc) hev hok.2 f h.2⟩
 |.two i r j r',listed,a,w,hsz,hc,hev,hok,hS,h=>by
  simp only [zu.even,eG,beq_iff_eq] at hev;simp only [zcN,eG,decide_eq_true_eq,beq_iff_eq] at hok;simp only [zag] at h;obtain⟨⟨⟨B,s⟩,b⟩,m,n⟩:=hok;have g:(zu.two i r j r').len=r.len+1:=rfl;rw [g];have F:∀ k,k∈Region.ready .any l.toArray listed↔k=i∨k=j:=fun k=>by rw [b];simp
  have f:∀ k w',k<l.length->(T.contains k=false->S w')->zhj T (listed.setIfInBounds k true)∨S w':=fun k w' u hx=>by
   cases hT:T.contains k
   ·exact Or.inr (hx hT)
   ·refine Or.inl ⟨k,by simpa using hT,?_⟩;have:k<listed.size:=oM;simp [this]
  refine⟨fun h0=>(by rw [h0] at b;cases b),fun k u=>?_⟩;rcases (F k).1 u with y | y
  ·rw [y] at u ⊢;refine wpOp_mono (fun a' w' h=>?_) h.1;exact⟨f _ _ B h.1,zbE hs hQ r _ _ _ (by simpa using hsz) (zcJ u hc) hev.2.1 m (f _ _ B h.1) h.2⟩
  ·rw [y] at u ⊢;refine wpOp_mono (fun a' w' h=>?_) h.2;have:=zbE hs hQ r' _ _ _ (by simpa using hsz) (zcJ u hc) hev.2.2 n (f _ _ s h.1) h.2;rw [← hev.1] at this;exact⟨f _ _ s h.1,this⟩
 |.three i r j r' k r'',listed,a,w,hsz,hc,hev,hok,hS,h=>by
  simp only [zu.even,eG,beq_iff_eq] at hev;simp only [zcN,eG,decide_eq_true_eq,beq_iff_eq] at hok;simp only [zag] at h;obtain⟨⟨⟨⟨B,s⟩,u⟩,b⟩,⟨m,n⟩,E⟩:=hok;obtain⟨⟨I,J⟩,⟨O,R⟩,U⟩:=hev;have g:(zu.three i r j r' k r'').len=r.len+1:=rfl;rw [g];have F:∀ x,x∈Region.ready .any l.toArray listed↔x=i∨x=j∨x=k:=fun x=>by rw [b];simp
  have f:∀ k w',k<l.length->(T.contains k=false->S w')->zhj T (listed.setIfInBounds k true)∨S w':=fun k w' u hx=>by
   cases hT:T.contains k
   ·exact Or.inr (hx hT)
   ·refine Or.inl ⟨k,by simpa using hT,?_⟩;have:k<listed.size:=oM;simp [this]
  refine⟨fun h0=>(by rw [h0] at b;cases b),fun x hx=>?_⟩;rcases (F x).1 hx with q | q | q
  ·rw [q] at hx ⊢;refine wpOp_mono (fun a' w' h=>?_) h.1;exact⟨f _ _ B h.1,zbE hs hQ r _ _ _ (by simpa using hsz) (zcJ hx hc) O m (f _ _ B h.1) h.2⟩
  ·rw [q] at hx ⊢;refine wpOp_mono (fun a' w' h=>?_) h.2.1;have:=zbE hs hQ r' _ _ _ (by simpa using hsz) (zcJ hx hc) R n (f _ _ s h.1) h.2;rw [← I] at this;exact⟨f _ _ s h.1,this⟩
  ·rw [q] at hx ⊢;refine wpOp_mono (fun a' w' h=>?_) h.2.2;have:=zbE hs hQ r'' _ _ _ (by simpa using hsz) (zcJ hx hc) U E (f _ _ u h.1) h.2;rw [← J] at this;exact⟨f _ _ u h.1,this⟩
theorem zbf (S:World->Prop) (T:List Nat) (ord:zu)(hm:P.follows .mixedOrders=true)(hlen:ord.len=l.length)(hev:ord.even=true)(hs:Region.noSelect l.toArray=true)(hok:zcN l T ord (Array.replicate l.length false)=true)
  (hQ:∀ (c:List PanicEntry) (a:Act) (d:Tmp) (v:Value) (w:World),Q (.panic c) (a.put (some d) v) w->Q (.panic c) a w) (hS:S w.drew) (h:zag P l T Q S ord a w.drew):(Code.region id l.toArray true).wp P Q a w:=by
 refine wp_region_any hm ?_;have:=zif _ _ _ _ (zbE hs hQ ord _ a w.drew sM (clo_start l) hev hok (Or.inr hS) h);rw [hlen] at this;simpa using this
theorem zf (h:Q .normal a w):zag P l T Q S .nil a w:=h
theorem useq_pure {rest:zu} {o:Oper}   (ho:l[i]?=some o)(hq:zcT o.op=true) (_hp:zfN o.op=true)(hw:Region.wanted o (yielded l.toArray a.tmps)=true)
  (hy:∀ W,(execOp a.eval o).run P W=.ok (.value v) W) (h:zag P l T Q S rest (a.put o.dst v) w):zag P l T Q S (.one i rest) a w:=by
 simp only [zag,ho,hq,if_true];exact⟨v,.inl ⟨hw,fun W _=>hy W⟩,h⟩
theorem zbr {rest:zu} {o:Oper}   (ho:l[i]?=some o)(hq:zcT o.op=true)(hp:zfN o.op=false)(hw:Region.wanted o (yielded l.toArray a.tmps)=true)
  (hy:∀ W,S W->(execOp a.eval o).run P W=.ok (.value v) W) (h:zag P l T Q S rest (a.put o.dst v) w):zag P l T Q S (.one i rest) a w:=by
 simp only [zag,ho,hq,hp,if_true];exact⟨v,.inl ⟨hw,hy⟩,h⟩
theorem useq_skip {rest:zu} {o:Oper}  (ho:l[i]?=some o)(hw:Region.wanted o (yielded l.toArray a.tmps)=false)
  (hS:S w) (h:zag P l T Q S rest (a.put o.dst undef) w):zag P l T Q S (.one i rest) a w:=by
 simp only [zag,ho];split
 ·exact⟨undef,.inr ⟨hw,rfl⟩,h⟩
 ·unfold wpOp;simp only [fP,ho,hw,Bool.false_eq_true,if_false];exact⟨fun _=>hS,h⟩
theorem ze {rest:zu} {o:Oper}  
  (h:∀ K:Act->World->Prop,Shut (∀ a w,S w->zag P l T Q S rest a w->K a w)->o.wp P a w K Q) (ho:l[i]?=some o:=by rfl) (hq:zcT o.op=false:=by rfl) (hw:Region.wanted o (yielded l.toArray a.tmps)=true:=by rfl):zag P l T Q S (.one i rest) a w:=by
 simp only [zag,ho,hq];unfold wpOp;simp only [fP,ho,hw,if_true];exact .inl (h _ fun a w hS hW=>⟨fun _=>hS,hW⟩)
theorem zb {rest:zu} {o:Oper}  
  (h:∀ K:Act->World->Prop,Shut (∀ a w,zag P l T Q S rest a w->K a w)->o.wp P a w K Q) (ho:l[i]?=some o:=by rfl) (hq:zcT o.op=false:=by rfl) (hT:T.contains i=true:=by rfl) (hw:Region.wanted o (yielded l.toArray a.tmps)=true:=by rfl):zag P l T Q S (.one i rest) a w:=by
 simp only [zag,ho,hq];unfold wpOp;simp only [fP,ho,hw,if_true];exact .inl (h _ fun a w hW=>⟨fun hn=>absurd (hn.symm.trans hT) dM,hW⟩)
end
section
variable {P:Program} {l:List Oper} {Q:Exit->Act->World->Prop} {S:World->Prop} {T:List Nat}
theorem zn {j:Nat} {r r':zu} {o o':Oper}  
  (h1:∀ K:Act->World->Prop,Shut (∀ a w,S w->zag P l T Q S r a w->K a w)->o.wp P a w K Q) (h2:∀ K:Act->World->Prop,Shut (∀ a w,S w->zag P l T Q S r' a w->K a w)->o'.wp P a w K Q) (ho:l[i]?=some o:=by rfl) (ho':l[j]?=some o':=by rfl) (hw:Region.wanted o (yielded l.toArray a.tmps)=true:=by rfl) (hw':Region.wanted o' (yielded l.toArray a.tmps)=true:=by rfl):zag P l T Q S (.two i r j r') a w:=by
 constructor
 ·unfold wpOp;simp only [fP,ho,hw,if_true];exact .inl (h1 _ fun a w hS hW=>⟨fun _=>hS,hW⟩)
 ·unfold wpOp;simp only [fP,ho',hw',if_true];exact .inl (h2 _ fun a w hS hW=>⟨fun _=>hS,hW⟩)
theorem zaz {j k:Nat} {r r' r'':zu} {o o' o'':Oper}  
  (h1:∀ K:Act->World->Prop,Shut (∀ a w,S w->zag P l T Q S r a w->K a w)->o.wp P a w K Q) (h2:∀ K:Act->World->Prop,Shut (∀ a w,S w->zag P l T Q S r' a w->K a w)->o'.wp P a w K Q) (h3:∀ K:Act->World->Prop,Shut (∀ a w,S w->zag P l T Q S r'' a w->K a w)->o''.wp P a w K Q) (ho:l[i]?=some o:=by rfl) (ho':l[j]?=some o':=by rfl) (ho'':l[k]?=some o'':=by rfl) (hw:Region.wanted o (yielded l.toArray a.tmps)=true:=by rfl) (hw':Region.wanted o' (yielded l.toArray a.tmps)=true:=by rfl) (hw'':Region.wanted o'' (yielded l.toArray a.tmps)=true:=by rfl):zag P l T Q S (.three i r j r' k r'') a w:=by
 refine⟨?_,?_,?_⟩
 ·unfold wpOp;simp only [fP,ho,hw,if_true];exact .inl (h1 _ fun a w hS hW=>⟨fun _=>hS,hW⟩)
 ·unfold wpOp;simp only [fP,ho',hw',if_true];exact .inl (h2 _ fun a w hS hW=>⟨fun _=>hS,hW⟩)
 ·unfold wpOp;simp only [fP,ho'',hw'',if_true];exact .inl (h3 _ fun a w hS hW=>⟨fun _=>hS,hW⟩)
end
theorem uQ {A B:Prop}(h:B) (k:Bx B->A:=by
 intro h0
 repeat (first|(refine useq_skip rfl rfl aM ?_;simp only [Act.put,List.setIfInBounds_toArray,List.set_cons_zero,List.set_cons_succ])|(refine useq_pure (v:=?_) rfl rfl rfl rfl (fun X=>?_) ?_;rotate_left;(focus (go_simp<;>with_reducible rfl));simp only [Act.put,List.setIfInBounds_toArray,List.set_cons_zero,List.set_cons_succ])|(refine zbr (v:=?_) rfl rfl rfl rfl (fun X hX=>?_) ?_;rotate_left;(focus (go_simp<;>with_reducible rfl));simp only [Act.put,List.setIfInBounds_toArray,List.set_cons_zero,List.set_cons_succ]))
 exact h0.out):A:=k ⟨h⟩
theorem uR {P:Program} {l:List Oper} {Q:Exit->Act->World->Prop} {id:Nat}   (S:World->Prop) (T:List Nat) (ord:zu)(h:zag P l T Q S ord a w.drew)(hm:P.follows .mixedOrders=true:=by kernel_rfl)(hlen:ord.len=l.length:=by kernel_rfl)(hev:ord.even=true:=by kernel_rfl)(hs:Region.noSelect l.toArray=true:=by kernel_rfl)(hok:zcN l T ord (Array.replicate l.length false)=true:=by kernel_rfl)
  (hQ:∀ (c:List PanicEntry) (a:Act) (d:Tmp) (v:Value) (w:World),Q (.panic c) (a.put (some d) v) w->Q (.panic c) a w:=by exact fun _ _ _ _ _ h=>h) (hS:S w.drew:=by first|assumption|exact (dB _).drew|(refine fW ?_;assumption)):(Code.region id l.toArray true).wp P Q a w:=
 zbf S T ord hm hlen hev hs hok hQ hS h
theorem info_pmov:(Tryz.prog.info? 240).map (fun i=>(i.zero,i.size,i.bytes))=some (some (.pointer none),1,8):=kM
def ptrs (bs:List Nat):List Value:=bs.map fun b=>.pointer (some ⟨b,0,none⟩)
def MovL (w:World) (bs:List Nat) (ss:List Sys):Prop:=bs.length=ss.length∧∀ (i b:Nat) (s:Sys),bs[i]?=some b->ss[i]?=some s->MovB w b s.edges
theorem MovL.ext (h:MovL w bs ss)(hx:Ext w w'):MovL w' bs ss:=⟨h.1,fun i b s hb hs=>(h.2 i b s hb hs).ext hx⟩
theorem MovL.snoc (h:MovL w bs ss)(hx:Ext w w')(hb:MovB w' b s.edges):MovL w' (bs++[b]) (ss++[s]):=by
 have c:=h.1;refine⟨by simp [c],fun i b' s' hb' hs'=>?_⟩;rcases fY i bs.length with a|a|a
 ·rw [eI a] at hb';rw [eI oM] at hs';exact (h.2 i b' s' hb' hs').ext hx
 ·rw [eM oM,a,fO] at hb';rw [eM oM,a,c,fO] at hs';simp at hb' hs';subst hb';subst hs';exact hb
 ·rw [eP (by simp;omega)] at hb';cases hb'
theorem MovL.frm (h:MovL w bs ss)(hx:Frm S w w')(hS:∀ (b:Nat) (cs:Array Value),Blk w b 282 cs->¬ S b):MovL w' bs ss:=
 ⟨h.1,fun i b s hb hs=>by
  obtain⟨cs,hB,hc⟩:=h.2 i b s hb hs
  exact⟨cs,hB.frm hx (hS b cs hB),hc⟩⟩
structure PtAt (w:World) (lo hi:Nat) (A:Option Addr) (k lo' hi':Nat) (M:Option Addr) (ss:List Sys):Prop where
 sys:zda w lo hi A k ss
 mov:∃ bs,Reads w lo' hi' 1 M k (ptrs bs)∧MovL w bs ss
theorem PtAt.ext {M:Option Addr} (h:PtAt w lo hi A k lo' hi' M ss)(hx:Ext w w'):PtAt w' lo hi A k lo' hi' M ss:=by
 obtain⟨a,c,b⟩:=h.mov;exact⟨h.sys.ext hx,a,c.ext hx,b.ext hx⟩
structure Grp (w0 W:World) (G:Nat) (a v:Value) (bs:List Nat) (ss:List Sys):Prop where
 blk:Blk W G 204 #[a,v]
 own:W.ownsRow w0.heap.size 240 1 v bs.length (ptrs bs)
 mov:MovL W bs ss
 ext:Ext w0 W
 hG:w0.heap.size<=G
theorem Grp.aq {G:Nat} {a:Value}  (h:Grp w0 W G a v bs ss)(hb:Ext W W'):Grp w0 W' G a v bs ss:=⟨h.blk.ext hb,zg h.own hb,h.mov.ext hb,h.ext.trans hb,h.hG⟩
theorem zI {size G:Nat}  {xs:List Value} (h:w.ownsRow base e size v n xs)(hB:Blk w G t cs)(hne:e≠t) (hv:v.ownBlock=some b):b≠G:=by
 rintro rfl;rcases h.2 with ⟨rfl,_⟩|⟨g,a,c,rfl,_,f,_⟩
 ·simp [Value.ownBlock] at hv
 ·have d:g=b:=by simpa [Value.ownBlock] using hv
  subst d;unfold Blk at hB;rw [f] at hB;injection hB with hB
  injection hB with _ ht
  exact absurd ht hne
theorem Grp.push {G:Nat} {a:Value}    (h:Grp w0 W G a v bs ss)(hb:MovB W b s.edges)
  (zjc:W'.ownsRow w0.heap.size 240 1 (.slice (some g) (bs.length+1) cap) (bs.length+1) (ptrs bs++[.pointer (some b)]))
  (hg:W.grownBy W' v.ownBlock) (hat:v.ownBlock=some g∨g=W.heap.size+1) :
  Hid (W'.cell? ⟨G,1,none⟩=some v)∧W'.frozen? ⟨G,1,none⟩=false∧Grp w0 (W'.setCell ⟨G,1,none⟩ (.slice (some g) (bs.length+1) cap)) G a (.slice (some g) (bs.length+1) cap) (bs++[b]) (ss++[s]):=by
 have d:Blk W' G 204 #[a,v]:=(hg.block G h.blk.lt (fun e=>zI h.own h.blk dM e.symm rfl)).trans h.blk;have m:g≠G:=by
  rcases hat with l|l
  ·exact zI h.own h.blk dM l
  ·have:=h.blk.lt;omega
 have n:Ext w0 W':=h.ext.grown hg (fun k hk=>(h.own.lt k hk).1);have f:=eC W' G 1 (.slice (some g) (bs.length+1) cap);have i:Frm (fun k=>v.ownBlock=some k) W W':=Frm.af hg;have j:MovL W' (bs++[b]) (ss++[s]):=(h.mov.snoc (dB W) hb).frm i (fun c cs hc hS=>zI h.own hc dM hS rfl);refine⟨d.cell 1,d.frozen 1,⟨by simpa using d.ab 1 _,?_,j.frm f (fun c cs hc hS=>?_),n.setCell (p:=⟨G,1,none⟩) h.hG _,h.hG⟩⟩
 ·rw [eO,List.length_singleton,show ptrs (bs++[b])=ptrs bs++[.pointer (some b)] by simp [ptrs]];exact zh zjc f (fun c hv hS=>by
   have:g=c:=by simpa [Value.ownBlock] using hv
   omega)
 ·subst hS;unfold Blk at hc d;rw [hc] at d;injection d with d
  injection d with _ ht
  exact absurd ht dM
theorem zfg (h:zda w lo hi A n ss)(hf:∀ s∈ss,Few 16 s.edges)(hn4:n<=1000) :
  Calls Tryz.prog 178 #[.slice A n c] w fun e w'=>∃ M d,e=.returned (.agg #[.slice A n c,.slice M n d])∧PtAt w' lo hi A n w.heap.size w'.heap.size M ss∧Ext w w':=by
 have HS:=za (fun W (hW:Ext w W)=>h.ext hW);have hL:=za h.1;have Hf:=za hf;have af:=h.len;clear hf
 go_enter Tryz.func178,Tryz.ntmps178
 obtain⟨l,bG⟩:=zH (dB ((w.alloc (.cells #[(),()] 204)).alloc (.cells #[.slice A n c,()] 204)));have E:Ext w ((w.alloc (.cells #[(),()] 204)).alloc (.cells #[.slice A n c,()] 204)):=((dB w).alloc _).alloc _;go_upto_region 2 with fail
 have ai:w.heap.size<=(w.alloc (.cells #[(),()] 204)).heap.size:=sM;have D:(w.alloc (.cells #[(),()] 204)).heap.size=w.heap.size+1:=sM;have j:Grp (w.alloc (.cells #[(),()] 204)) ((w.alloc (.cells #[(),()] 204)).alloc (.cells #[.slice A n c,()] 204)) (w.heap.size+1) (.slice A n c) (.slice none 0 0) [] []:=
  ⟨bG,World.ownsRow_nil _ _ _ _,⟨rfl,fun i b s hb=>by simp at hb⟩,(dB _).alloc _,by rw [D];exact eA _⟩
 clear bG;generalize (w.alloc _).alloc _=w2 at *;generalize w.alloc _=w1 at *;go_wp2_with fail
 go_loopw [10] (fun i wr=>∃ (k:Nat) (v:Value) (t:List Nat),k<=n∧i=.int .i64 k∧Grp w1 wr (w.heap.size+1) (.slice A n c) v t (ss.take k)∧Hid (t.length=k)∧Blk wr w.heap.size 204 #[(),()]∧Ext w wr) (fun i _=>n - (intOf i).toNat)
 case atStart=>exact⟨0,_,[],eD _,rfl,by simpa using j,za rfl,l,E⟩
 case round =>
  clear j l E w2;obtain⟨k,v,t,hk,rfl,j,r,l,T⟩:=hrel
  by_cases hlt:k<n
  ·obtain⟨g,o,s,B,m,c',rfl,_,_,hs,c0,c1,c2,S⟩:=(HS.out wr T).sys hlt;have Q:=za (Hf.out s (eB hs.out));have H:=za (show ss.take (k+1)=ss.take k++[s] by rw [eH,hs.out];rfl);have u:=(dB wr).alloc (.cells #[s.al,s.st,.slice B m c'] 38);have f:=j.aq u;have U:=T.trans u;have x:=l.ext u;have C:=S.ext u;clear j;go_upto_region 5 with fail
   clear c0 c1 c2;generalize U0:wr.alloc _=w3 at *;have O:=Ext.bl_ U0;clear U0;have c5:=O.cells;have cG:=fun W (hW:Ext w3 W)=>(f.blk.ext hW).cell;have F:=dB w3;refine uR (fun X=>Ext w3 X) [5,7] (zu.of [0,1,2,3,4,5,6,7]) ?_;refine uQ ?_;refine ze fun K hK=>?_;go_simp;refine (zdR (C.ext F.drew) Q.out).mono ?_;rintro e w4 ⟨b,rfl,av,R,Z⟩;have a:=F.drew.trans Z;refine hK.out _ _ a ?_;refine pT ?_;refine uQ ?_;refine ze fun K hK=>?_;go_simp;refine hK.out _ _ (a.alloc _) ?_;refine pT ?_;refine zb fun K hK=>?_;refine zbT w1 w4 _ _ _ rfl 240 _ 1 8 Tryz.underlying202 info_pmov rfl dM v t.length (ptrs t) _ _ rfl rfl (f.ext.trans a).size (zg f.own a) rfl (by simp [Value.oneCell']) (by unfold maxLen;have:=r.out;omega) (oH r.out) ?_;intro g5 cap5 w5 zjo hg5 hat5 hlt5;refine hK.out _ _ ?_;refine pT ?_;refine uQ ?_;obtain⟨p1,p2,p3⟩:=(f.aq a).push (s:=s) R (W':=w5) zjo hg5 hat5;have ay:=p1.out;have I:Blk w5 w.heap.size 204 #[.slice none 0 0,.slice none 0 0]:=(hg5.block _ (x.ext a).lt (fun e=>zI (zg f.own a) (x.ext a) dM e.symm rfl)).trans (x.ext a);have V:Ext w w5:=(U.trans a).grown hg5 (fun q hq=>by have:=(zg f.own a).lt q hq;omega);have J:=I.far (p:=⟨w.heap.size+1,1,none⟩) sM (.slice (some g5) (t.length+1) cap5);have Y:=V.setCell (p:=⟨w.heap.size+1,1,none⟩) sM (.slice (some g5) (t.length+1) cap5);refine zb fun K hK=>?_;go_simp;refine hK.out _ _ ?_;refine zf ?_;go_wp2_with fail
   go_roundw
   case rel=>exact⟨k+1,_,t++[b],oM,gM,by rw [H.out];exact p3,za (by rw [eO,r.out];rfl),J,Y⟩
   case measure=>simp [intOf];omega
  ·obtain rfl:n=k:=oM;obtain⟨M,d,rfl⟩:∃ M d,v=.slice M n d:=by
    have z:=j.own;rw [r.out] at z;exact zi z
   have cG:=j.blk.cell;have cZ:=l.cell;have fZ:=l.frozen;have y:Frm (fun k=>k=w.heap.size) wr ((wr.setCell w.heap.size (.slice A n c)).setCell ⟨w.heap.size,1,none⟩ (.slice M n d)):=(eC wr _ 0 _).trans (eC _ _ 1 _);have L:Blk ((wr.setCell w.heap.size (.slice A n c)).setCell ⟨w.heap.size,1,none⟩ (.slice M n d)) w.heap.size 204 #[.slice A n c,.slice M n d]:=by simpa using (l.ab 0 (.slice A n c)).ab 1 (.slice M n d)
   have G:=T.frm y (fun k hk e=>oM);have ab:=za (show ∃ M' d',Ending.returned (.agg #[.slice A n c,.slice M n d])=.returned (.agg #[.slice A n c,.slice M' n d'])∧PtAt ((wr.setCell w.heap.size (.slice A n c)).setCell ⟨w.heap.size,1,none⟩ (.slice M n d)) lo hi A n w.heap.size ((wr.setCell w.heap.size (.slice A n c)).setCell ⟨w.heap.size,1,none⟩ (.slice M n d)).heap.size M' ss∧Ext w ((wr.setCell w.heap.size (.slice A n c)).setCell ⟨w.heap.size,1,none⟩ (.slice M n d)) from by
    refine⟨M,d,rfl,⟨HS.out _ G,t,?_,?_⟩,G⟩
    ·have z:=zct j.own y (fun b h1 e=>oM);rw [r.out] at z;exact (Reads.ae z).more oM (eA _)
    ·have hm:=j.mov;rw [eE (oH hL.out)] at hm;exact hm.frm y (fun b cs hc hS=>by
      subst hS;unfold Blk at hc l;rw [hc] at l;injection l with l
      injection l with _ ht
      exact absurd ht dM))
   go_wp2_with fail
   generalize (wr.setCell w.heap.size (.slice A n c)).setCell ⟨w.heap.size,1,none⟩ (.slice M n d)=wf at *;have cf:=L.cell;exact bodyPost_ret (v:=.agg #[.slice A n c,.slice M n d]) (by simp [results,Tryz.results178,go_sem,cf]) rfl ab.out
theorem zdU (l:List Nat) (x:Nat):zU (l++[x])=zU l++[.int .i64 (x:Nat)]:=by simp [zU]
theorem spec_l4Sizes {us:List Aut} (h:zeQ w PA pn AA an ss us)(hok:zdw ss us) :
  Calls Tryz.prog 212 #[.agg #[.slice PA pn pc,.slice AA an ac,sv,L,K,G]] w (zbI w (szs ss us)):=by
 have M:=za (fun W (hW:Ext w W)=>h.ext hW);have z:Hid (pn=ss.length):=by obtain⟨_,_,E⟩:=h.sys;exact E.1
 have x:Hid (an=us.length):=by obtain⟨_,_,E⟩:=h.aut;exact E.1
 have ae:pn<=3:=by rw [z.out];exact hok.few
 have Y:an<=2:=by rw [x.out];exact hok.few'
 have u:=za hok;clear h hok
 go_enter Tryz.func212,Tryz.ntmps212
 have J:Ext w (w.alloc (.cells #[.slice PA pn pc,.slice AA an ac,sv,L,K,G] 168)):=(dB w).alloc _;have F:=eX w 168 #[.slice PA pn pc,.slice AA an ac,sv,L,K,G];go_wp2
 go_loopw [3,4] (fun v i wr=>∃ k:Nat,k<=pn∧i=.int .i64 k∧wr.ownsRow w.heap.size 3 1 v k (zU ((ss.take k).map fun s=>s.st.toNat))∧Ext w wr∧Blk wr w.heap.size 168 #[.slice PA pn pc,.slice AA an ac,sv,L,K,G])
  (fun _ i _=>pn - (intOf i).toNat)
 case atStart=>exact⟨0,eD _,rfl,(by have X:=World.ownsRow_lit (base:=w.heap.size) (e:=3) (size:=1) (w.alloc (.cells #[.slice PA pn pc,.slice AA an ac,sv,L,K,G] 168)) #[] 0 sM lM rfl;simpa [zU] using X),J.alloc _,F.ext ((dB _).alloc _)⟩
 case round =>
  obtain⟨k,hk,rfl,j,l,g⟩:=hrel;have O:=g.cell
  by_cases hlt:k<pn
  ·obtain⟨lo,hi,r⟩:=(M.out wr l).sys;obtain⟨b,o,s,B,q,d,rfl,ad,Z,C,U,Q,V,I⟩:=r.sys hlt;have D:=zbV (u.out.sys s (eB C.out));obtain⟨p,T⟩:∃ p:Nat,Hid (s.st=p):=⟨s.st.toNat,by have:=D.1;unfold Hid;omega⟩;rw [T.out] at Q;have t:=za (show (ss.take (k+1)).map (fun s=>s.st.toNat)=(ss.take k).map (fun s=>s.st.toNat)++[p] by rw [eH,C.out];simp [T.out]);clear D r I;go_wp2_with (at_builtin;refine zal w wr rfl _ _ _ rfl 3 _ 1 8 Tryz.underlying128 zai rfl dM u3 _ _ _ _ rfl rfl l j rfl (zaY _) lM oM ?_;intro v' w1 hext1 zjl hg1 hat1)
   have n:Blk w1 w.heap.size 168 #[.slice (some ⟨b,o,none⟩) pn pc,.slice AA an ac,sv,.int .i64 L,.int .i64 K,.int .i64 G]:=(hg1.block _ g.lt (fun e=>zI j g dM e.symm rfl)).trans g;go_roundw
   case rel=>exact⟨k+1,oM,gM,by rw [t.out,zdU];exact zjl,hext1,n⟩
   case measure=>simp [intOf];omega
  ·obtain rfl:pn=k:=oM;have f:wr.ownsRow w.heap.size 3 1 u3 pn (zU (ss.map fun s=>s.st.toNat)):=by rw [eE (oH z.out)] at j;exact j
   clear j;go_wp2
   go_loopw [3,5] (fun v i wr=>∃ k:Nat,k<=an∧i=.int .i64 k∧wr.ownsRow w.heap.size 3 1 v (pn+k) (zU (ss.map (fun s=>s.st.toNat)++(us.take k).map fun a=>a.next.length))∧Ext w wr∧Blk wr w.heap.size 168 #[.slice PA pn pc,.slice AA an ac,sv,L,K,G])
    (fun _ i _=>an - (intOf i).toNat)
   case atStart=>exact⟨0,eD _,rfl,by simpa using f,l,g⟩
   case round =>
    clear f l g O;obtain⟨k,hk,rfl,j,l,g⟩:=hrel;have O:=g.cell
    by_cases hlt:k<an
    ·obtain⟨lo,hi,r⟩:=(M.out wr l).aut;obtain⟨b,o,a,B,m,c,B',m',c',rfl,C,U,Q,V,y⟩:=r.aut hlt;have R:=za y.n1;have S:m<=12:=by have:=(zk (u.out.aut a (eB C.out))).2.1;rw [← R.out] at this;omega
     have t:=za (show ss.map (fun s=>s.st.toNat)++(us.take (k+1)).map (fun a=>a.next.length)=(ss.map (fun s=>s.st.toNat)++(us.take k).map (fun a=>a.next.length))++[m] by rw [eH,C.out];simp [R.out]);clear r y;go_wp2_with (at_builtin;refine zal w wr rfl _ _ _ rfl 3 _ 1 8 Tryz.underlying128 zai rfl dM u3 _ _ _ _ rfl rfl l j rfl (zaY _) lM oM ?_;intro v' w1 hext1 zjl hg1 hat1)
     have n:Blk w1 w.heap.size 168 #[.slice PA pn pc,.slice (some ⟨b,o,none⟩) an ac,sv,.int .i64 L,.int .i64 K,.int .i64 G]:=(hg1.block _ g.lt (fun e=>zI j g dM e.symm rfl)).trans g;go_roundw
     case rel=>exact⟨k+1,oM,gM,by rw [t.out,zdU];exact zjl,hext1,n⟩
     case measure=>simp [intOf];omega
    ·obtain rfl:an=k:=oM;have f:wr.ownsRow w.heap.size 3 1 u3 (pn+an) (zU (szs ss us)):=by rw [eE (oH x.out)] at j;exact j
     have H:pn+an=(szs ss us).length:=by have:=zcW f;simp [zU] at this;omega
     rw [H] at f;obtain⟨A5,c5,rfl⟩:=zi f;clear j;go_wp2;go_ret;exact⟨_,_,rfl,f,l⟩
theorem ziU {B:Option Addr} {d:Nat}   (h:Lst zbg w lo hi A sz)(h':Lst zbg w lo' hi' B st)(hl:sz.length=st.length)(hb:∀ k,k<=sz.length->encF 0 (sz.take k) (st.take k)<=1048576)(hz:∀ x∈sz,x<=16)(hs:∀ x∈st,x<=16) :
  Calls Tryz.prog 217 #[.slice A sz.length c,.slice B st.length d] w fun e w'=>e=.returned (.int .i64 (encF 0 sz st:Nat))∧Ext w w':=by
 have L:=za (fun W (hW:Ext w W)=>h.ext zbg.ok hW);have M:=za (fun W (hW:Ext w W)=>h'.ext zbg.ok hW);have O:=za hb;have R:=za hz;have Q:=za hs;have m:=h.len;have T:∃ n:Nat,Hid (sz.length=n)∧Hid (st.length=n):=⟨sz.length,rfl,hl.symm⟩;obtain⟨n,a,g⟩:=T;rw [a.out] at m;rw [a.out,g.out];clear hb hz hs hl h h'
 go_enter Tryz.func217,Tryz.ntmps217
 go_wp2
 go_loopw [5,6] (fun v i wr=>∃ k y:Nat,k<=n∧i=.int .i64 k∧v=.int .i64 y∧Hid (y=encF 0 (sz.take k) (st.take k))∧y<=1048576∧Ext w wr) (fun _ i _=>n - (intOf i).toNat)
 case atStart=>exact⟨0,0,eD _,rfl,rfl,rfl,oM,dB _⟩
 case round =>
  obtain⟨k,y,hk,rfl,rfl,H,V,r⟩:=hrel
  by_cases hlt:k<n
  ·obtain⟨b,o,s,rfl,_,_,hs,D⟩:=(L.out wr r).num (show k<sz.length by rw [a.out];exact hlt);obtain⟨S,X,t,rfl,_,_,F,l⟩:=(M.out wr r).num (show k<st.length by rw [g.out];exact hlt);have E:=R.out s (eB hs.out);have G:=Q.out t (eB F.out);have Y:∀ W,Ext wr W->W.cell? ⟨b,o+k,none⟩=some (.int .i64 (s:Nat)):=fun W hW=>hW.aa D;have Z:∀ W,Ext wr W->W.cell? ⟨S,X+k,none⟩=some (.int .i64 (t:Nat)):=fun W hW=>hW.aa l;have j:=za (show encF 0 (sz.take (k+1)) (st.take (k+1))=y*s+t by
    have u:∀ (k acc:Nat) (sz st:List Nat),sz[k]?=some s->st[k]?=some t->encF acc (sz.take (k+1)) (st.take (k+1))=encF acc (sz.take k) (st.take k)*s+t:=by
     intro k
     induction k with
     |zero =>
      intro acc sz st h1 h2;cases sz<;>cases st<;>simp at h1 h2
      subst h1;subst h2;simp [encF]
     |succ k ih =>
      intro acc sz st h1 h2;cases sz<;>cases st<;>simp at h1 h2
      simpa [encF] using ih _ _ _ h1 h2
    rw [u k 0 sz st hs.out F.out,H.out])
   have f:=O.out (k+1) (by rw [a.out];omega);rw [j.out] at f;have p:y*s<=1048576:=oM;obtain⟨J,q⟩:∃ z:Nat,Hid (y*s=z):=⟨_,rfl⟩;have I:(y:Int)*(s:Int)=(J:Int):=by rw [← q.out];exact (gK y s).symm
   rw [q.out] at p f j;have U:=dB wr;clear D l;go_wp2_with fail
   go_quiet (fail)
   go_wp2_with fail
   go_roundw
   case rel=>exact⟨k+1,J+t,oM,gM,gM,by unfold Hid;rw [j.out],f,r.drewN _⟩
   case measure=>simp [intOf];omega
  ·obtain rfl:n=k:=oM;have C:=za (show y=encF 0 sz st by rw [H.out,eE (by rw [a.out];exact eA _),eE (by rw [g.out];exact eA _)]);go_wp2;go_ret;exact⟨zG (by rw [C.out]),r⟩
def decV (sz:List Nat) (x k:Nat):List Nat:=eN k 0++dec (sz.drop k) x
theorem decV_set {s:Nat}(h:sz[k]?=some s):(zU (decV sz x (k+1))).set k (.int .i64 ((x / zah (sz.drop (k+1)) % s:Nat):Int))=zU (decV sz x k):=by
 have a:sz.drop k=s :: sz.drop (k+1):=by
  obtain⟨b,rfl⟩:=List.getElem?_eq_some_iff.1 h;exact gH b
 unfold decV zU;rw [a,dec,List.replicate_succ',List.append_assoc,fB,fB,List.set_append_right _ _ sM];simp
theorem zfv {y0:Nat}   (h:Lst zbg w lo hi A sz)(hn:sz.length=n)(hn5:n<=1000)(hz:∀ x∈sz,1<=x∧x<=16)(hy:y0<=4611686018427387904) :
  Calls Tryz.prog 215 #[.slice A n c,y0] w (zbI w (dec sz y0)):=by
 have F:=za (fun W (hW:Ext w W)=>h.ext zbg.ok hW);have H:=za hz;have d:=za hn;clear hz h hn
 go_enter Tryz.func215,Tryz.ntmps215
 go_wp2_with (at_make;refine zas w w rfl _ _ 128 rfl 3 _ 1 8 Tryz.underlying128 zai _ _ n rfl rfl (dB _) oM lM ?_;intro w3 hw3 zjn hx23 hsz3)
 generalize hg:w.heap.size=g at *;have G:=za hg;clear hg hx23 hsz3
 go_loopw [1,6] (fun v i wr=>∃ k y:Nat,k<=n∧i=.int .i64 ((k:Int) - 1)∧v=.int .i64 y∧y<=4611686018427387904∧Hid (y=y0 / zah (sz.drop k))∧wr.ownsRow g 3 1 (.slice (some g) n n) n (zU (decV sz y0 k))∧Ext w wr) (fun _ i _=>(intOf i+1).toNat)
 case atStart=>exact⟨n,y0,eA _,gM,rfl,hy,by unfold Hid;rw [gY (oH d.out)];simp [zah],by rw [decV,gY (oH d.out)];simpa [zU,dec,Value.cells,toList_madeCells_one] using zjn,hw3⟩
 case round =>
  clear zjn hw3;obtain⟨k,y,X,rfl,rfl,D,f,a,t⟩:=hrel
  by_cases hlt:0<k
  ·obtain⟨j,rfl⟩:∃ j,k=j+1:=⟨k - 1,oM⟩;obtain⟨b,o,s,rfl,_,_,r,V⟩:=(F.out wr t).num (show j<sz.length by have:=d.out;omega);obtain⟨Z,Q⟩:=H.out s (eB r.out);obtain⟨Y,T⟩:=zab a j oM;have S:=a.frozenAt j;have M:(y:Int) % (s:Int)=((y % s:Nat):Int):=(Int.natCast_emod y s).symm;have L:(y:Int) / (s:Int)=((y / s:Nat):Int):=(Int.natCast_ediv y s).symm;have q:=a.stored j (.int .i64 ((y % s:Nat):Int));rw [f.out,decV_set r.out,← f.out] at q;have u:=za (show y / s=y0 / zah (sz.drop j) by
    rw [f.out,Nat.div_div_eq_div_mul,gH (show j<sz.length by have:=d.out;omega),zah];have:sz[j]'(oH d.out)=s:=by
     obtain⟨U,I⟩:=List.getElem?_eq_some_iff.1 r.out;exact I
    rw [this,Nat.mul_comm])
   have B:y / s<=4611686018427387904:=eJ (Nat.div_le_self _ _) D;have O:¬ (s=0):=oM;have l:w.heap.size<=g:=oH G.out;have z:((j+1:Nat):Int) - 1=(j:Int):=oM;rw [z];have J:=(F.out _ (t.setCell (p:=⟨g,j,none⟩) l (.int .i64 ((y % s:Nat):Int)))).num2 r.out;generalize y % s=ym at *;generalize y / s=R at *;go_wp2;go_roundw
   case rel=>exact⟨j,R,oM,rfl,rfl,B,u,q.1,t.setCell (p:=⟨g,j,none⟩) l _⟩
   case measure=>simp [intOf]
  ·obtain rfl:k=0:=oM;have m:=zdf sz y0;have E:=za (show wr.ownsRow w.heap.size 3 1 (.slice (some g) (dec sz y0).length n) (dec sz y0).length (zU (dec sz y0)) by
    rw [m,d.out,G.out];simpa [decV] using a)
   have C:(dec sz y0).length=n:=oH d.out;go_wp2;go_ret;exact⟨some ⟨g,0,none⟩,n,by rw [C];rfl,E.out,t⟩
theorem spec_l4In {xs:List Nat} (h:Lst zbg w lo hi A xs)(hn:xs.length=n) :
  Calls Tryz.prog 269 #[.slice A n c,x] w fun e w'=>e=.returned (.bool (decide (x∈xs)))∧w=w':=by
 have l:=za hn;have a:=h.len;rw [hn] at a;clear hn
 go_enter Tryz.func269,Tryz.ntmps269
 go_wp2
 go_loop [5] (fun i=>∃ k:Nat,k<=n∧i=.int .i64 k∧Hid (∀ (j z:Nat),j<k->xs[j]?=some z->z≠x)) (fun i=>n - (intOf i).toNat)
 case atStart=>exact⟨0,eD _,rfl,(show Hid _ from fun j z f=>oM)⟩
 case round =>
  obtain⟨k,r,rfl,d⟩:=hrel
  by_cases hlt:k<n
  ·obtain⟨b,o,z,rfl,_,_,m,q⟩:=h.num (show k<xs.length by rw [l.out];exact hlt)
   by_cases hzx:z=x
   ·subst hzx;have g:=za (eB m.out);go_wp2;go_ret;exact⟨zm (by rw [decide_eq_true g.out]),rfl⟩
   ·have p:((z:Int)==(x:Int))=false:=by simp;omega
    go_wp2
    go_round
    case rel=>exact⟨k+1,oM,gM,(show Hid _ from fun j y f hy=>by
     by_cases e:j=k
     ·subst e;have:=m.out;rw [hy] at this;injection this with this
      subst this;exact hzx
     ·exact d.out j y oM hy)⟩
    case measure=>simp [intOf];omega
  ·obtain rfl:n=k:=oM;have g:=za (show ¬ x∈xs from fun hx=>by
    obtain⟨j,f⟩:=eT hx;exact d.out j x (by have:=(List.getElem?_eq_some_iff.1 f).1;rw [l.out] at this;exact this) f rfl)
   go_wp2;go_ret;exact⟨zm (by rw [decide_eq_false g.out]),rfl⟩
def zck (a:Aut) (q:Nat):Bool:=a.acc.getD q false
theorem zhf {us:List Aut}   {sn hi:Nat}  {a:Aut}(h:zeQ w PA pn AA an ss us)(h':Lst zbg w lo hi SA st)(hsn:st.length=sn)(hi:us[i]?=some a)(hq:st[pn+i]?=some q)(hqa:q<a.acc.length) :
  Calls Tryz.prog 267 #[.agg #[.slice PA pn pc,.slice AA an ac,sv,L,K,G],.slice SA sn sc,i] w fun e w'=>e=.returned (.bool (zck a q))∧Ext w w':=by
 have s:i<an:=by obtain⟨_,_,p⟩:=h.aut;rw [p.1];exact (List.getElem?_eq_some_iff.1 hi).1
 have v:pn+i<sn:=by rw [← hsn];exact (List.getElem?_eq_some_iff.1 hq).1
 obtain⟨ab,V,g⟩:=h.aut;have M:=g.len;have t:pn<=9223372036854775807:=by obtain⟨_,_,p⟩:=h.sys;exact p.len
 have j:=h'.len;rw [hsn] at j;obtain⟨b,o,Q,B,m,c,B',y,S,rfl,k,T,U,I,d⟩:=g.aut s;obtain rfl:a=Q:=by have:=k.out;rw [hi] at this;exact Option.some.inj this
 obtain⟨R,os,q',rfl,_,_,n,J⟩:=h'.num (show pn+i<st.length by rw [hsn];exact v);obtain rfl:q=q':=by have:=n.out;rw [hq] at this;exact Option.some.inj this
 have u:q<y:=by rw [d.n2];exact hqa
 obtain⟨D,x,rfl,_,_,O,l⟩:=d.2.2.bool u;have C:=za (show zck a q=x by unfold zck;rw [eF,O.out];rfl);have Y:=d.2.2.len;have E:∀ W,Ext w W->W.cell? ⟨b,o+i*3+2,none⟩=some (.slice (some D) y S):=fun W hW=>hW.aa I;have F:∀ W,Ext w W->W.cell? ⟨R,os+(pn+i),none⟩=some (.int .i64 (q:Nat)):=fun W hW=>hW.aa J;have H:∀ W,Ext w W->W.cell? (D.add q)=some (.bool x):=fun W hW=>hW.aa l;clear g d h h' T U I J l O n k hi hq hqa
 go_enter Tryz.func267,Tryz.ntmps267
 go_wp2_with fail
 generalize U0:w.alloc _=z at *;obtain⟨f,r⟩:=Ext.x1_ U0;clear U0;have c0:=r.cell;have E:=E z f;have F:=F z f;have H:=H z f;have Z:(pn:Int)+(i:Int)<(sn:Int):=oM;have X:(i:Int)<(an:Int):=oM;have aa:(q:Int)<(y:Int):=oM
 go_quiet (fail)
 go_wp2_with fail
 go_ret;exact⟨zm (by rw [C.out]),f.drewN _⟩
def zaf (w:World) (A:Option Addr) (m:Nat) (l:List Nat):Prop:=
 m=l.length∧m<=9223372036854775807∧(0<m->∃ (g o:Nat) (cs:Array Value),A=some ⟨g,o,none⟩∧w.heap[g]?=some (.cells cs 3 (0,0))∧∀ j x,l[j]?=some x->w.cell? ⟨g,o+j,none⟩=some (.int .i64 (x:Nat)))
theorem zaf.frm {l:List Nat}(h:zaf w A m l)(hb:Frm S w w')(hS:∀ k,S k->∀ cs,w.heap[k]?≠some (.cells cs 3 (0,0))):zaf w' A m l:=by
 refine⟨h.1,h.2.1,fun h0=>?_⟩;obtain⟨g,o,cs,e,b,d⟩:=h.2.2 h0;have a:=(Array.getElem?_eq_some_iff.1 b).1;have c:¬ S g:=fun hs=>hS g hs cs b;exact⟨g,o,cs,e,(hb.block g a c).trans b,fun j x hx=>(World.cell?_of_block (w:=w) (hb.block g a c)).trans (d j x hx)⟩
theorem zaf.ext {l:List Nat}(h:zaf w A m l)(hb:Ext w w'):zaf w' A m l:=h.frm (S:=fun _=>False) hb (fun _ hk=>hk.elim)
theorem zaf.at_ {l:List Nat}(h:zaf w A m l)(hk:k<m):∃ (g o x:Nat),A=some ⟨g,o,none⟩∧Hid (l[k]?=some x)∧w.cell? ⟨g,o+k,none⟩=some (.int .i64 (x:Nat)):=by
 obtain⟨g,o,c,e,_,b⟩:=h.2.2 oM;have a:l[k]?=some (l[k]'(oH h.1)):=dC _;exact⟨g,o,_,e,a,b k _ a⟩
theorem zaf.own {l:List Nat}(h:w.ownsRow base 3 1 (.slice A n c) n (zU l)):zaf w A n l:=by
 have i:=h.1;rw [zgS] at i;refine⟨oM,(Reads.ae h).len,fun h0=>?_⟩;rcases h.2 with ⟨_,m⟩|⟨g,b,a,k,_,f,_⟩
 ·omega
 ·have d:A=some ⟨g,0,none⟩:=by injection k
  subst d;refine⟨g,0,a,rfl,f,fun j x hx=>?_⟩;have o:=(List.getElem?_eq_some_iff.1 hx).1;rw [eS,h.cellAt j oM];simp [zU,hx]
theorem info_step:(Tryz.prog.info? 261).map (fun i=>(i.zero,i.size,i.bytes))=some (some (.agg #[(0:Int),(0:Int),()]),3,40):=kM
def zbS:List (Stp × Value)->List Value
 |[]=>[]
 |(p,v) :: r=>.int .i64 p.parent :: .int .i64 (p.letter:Nat) :: v :: zbS r
theorem zhC (l m:List (Stp × Value)):zbS (l++m)=zbS l++zbS m:=by
 induction l with
 |nil=>rfl
 |cons x r ih=>obtain⟨p,v⟩:=x;simp [zbS,ih]
theorem zhg {l:List (Stp × Value)}  {p:Stp} (h:l[k]?=some (p,v)):(zbS l)[k*3]?=some (.int .i64 p.parent)∧(zbS l)[k*3+1]?=some (.int .i64 (p.letter:Nat))∧(zbS l)[k*3+2]?=some v:=by
 induction l generalizing k with
 |nil=>simp at h
 |cons a r ih =>
  cases k with
  |zero=>simp at h;subst h;exact⟨rfl,rfl,rfl⟩
  |succ k =>
   obtain⟨c,d⟩:=a;have:=ih (k:=k) (by simpa using h);have b:(k+1)*3=k*3+1+1+1:=oM;refine⟨?_,?_,?_⟩<;>rw [b]<;>simp only [zbS,List.getElem?_cons_succ]
   ·exact this.1
   ·exact this.2.1
   ·exact this.2.2
def Nodes (w:World) (sts:List (Stp × Value)):Prop:=∀ (k:Nat) (p:Stp) (v:Value),sts[k]?=some (p,v)->∃ A c,v=.slice A p.nodes.length c∧zaf w A p.nodes.length p.nodes
theorem Nodes.frm {sts:List (Stp × Value)}(h:Nodes w sts)(hb:Frm S w w')(hS:∀ k,S k->∀ cs,w.heap[k]?≠some (.cells cs 3 (0,0))):Nodes w' sts:=fun k p v hk=>by
 obtain⟨A,c,e,hx⟩:=h k p v hk
 exact⟨A,c,e,hx.frm hb hS⟩
structure Sea (w0 w:World) (bs bg bt gs N cs:Nat) (fg:Value) (S:List Bool) (vst:Value) (sts:List (Stp × Value)):Prop where
 ext:Ext w0 w
 vs:Blk w bs 26 #[.slice (some gs) N cs]
 ds:w.ownsRow w0.heap.size 4 1 (.slice (some gs) N cs) N (zS S)
 vg:∃ t,Blk w bg t #[fg]
 vt:Blk w bt 259 #[vst]
 dt:w.ownsRow w0.heap.size 261 3 vst sts.length (zbS sts)
 nd:Nodes w sts
 hs:w0.heap.size<=bs
 hg:w0.heap.size<=bg
 ht:w0.heap.size<=bt
 hgt:bg≠bt
 hgg:bg≠gs
 hgv:∀ b,vst.ownBlock=some b->b≠bg
section
variable {w0 w w':World} {bs bg bt gs N cs:Nat} {fg vst:Value} {S:List Bool} {sts:List (Stp × Value)}
theorem Sea.far {H:Nat}(h:Sea w0 w bs bg bt gs N cs fg S vst sts)(hb:Frm T w w')(hT:∀ k,T k->H<=k)(h1:bs<H)(h2:bg<H)(h3:bt<H)(h4:gs<H)(h5:∀ b,vst.ownBlock=some b->b<H)(h0:w0.heap.size<=H)(hn:Nodes w' sts):Sea w0 w' bs bg bt gs N cs fg S vst sts:=by
 obtain⟨t,a⟩:=h.vg;refine⟨h.ext.frm hb (fun k hk hS=>by have:=hT k hS;omega),h.vs.frm hb (fun hS=>by have:=hT _ hS;omega),zh h.ds hb (fun b hv hS=>?_),⟨t,a.frm hb (fun hS=>by have:=hT _ hS;omega)⟩,h.vt.frm hb (fun hS=>by have:=hT _ hS;omega),zh h.dt hb (fun b hv hS=>by have:=hT _ hS;have:=h5 b hv;omega),hn,h.hs,h.hg,h.ht,h.hgt,h.hgg,h.hgv⟩;have c:gs=b:=by simpa [Value.ownBlock] using hv
 have:=hT _ hS;omega
theorem Sea.aq (h:Sea w0 w bs bg bt gs N cs fg S vst sts)(hx:Ext w w'):Sea w0 w' bs bg bt gs N cs fg S vst sts:=by
 obtain⟨t,a⟩:=h.vg;exact⟨h.ext.trans hx,h.vs.ext hx,zg h.ds hx,⟨t,a.ext hx⟩,h.vt.ext hx,zg h.dt hx,h.nd.frm (S:=fun _=>False) hx (fun _ hk=>hk.elim),h.hs,h.hg,h.ht,h.hgt,h.hgg,h.hgv⟩
theorem Sea.gs_lt (h:Sea w0 w bs bg bt gs N cs fg S vst sts):w0.heap.size<=gs∧gs<w.heap.size:=h.ds.lt gs rfl
theorem Sea.gs_row (h:Sea w0 w bs bg bt gs N cs fg S vst sts):∃ cur,w.heap[gs]?=some (.cells cur 4 (0,0)):=by
 rcases h.ds.2 with ⟨a,_⟩|⟨g,b,cur,a,_,c,_⟩
 ·injection a with h1;cases h1
 ·have:gs=g:=by injection a with h1;injection h1 with h1;injection h1
  subst this;exact⟨cur,c⟩
theorem Sea.vst_row (h:Sea w0 w bs bg bt gs N cs fg S vst sts) (hb:vst.ownBlock=some b):∃ cur,w.heap[b]?=some (.cells cur 261 (0,0)):=by
 rcases h.dt.2 with ⟨rfl,_⟩|⟨g,a,cur,rfl,_,d,_⟩
 ·simp [Value.ownBlock] at hb
 ·have c:g=b:=by simpa [Value.ownBlock] using hb
  subst c;exact⟨cur,d⟩
theorem Sea.mark (h:Sea w0 w bs bg bt gs N cs fg S vst sts) :Sea w0 (w.setCell ⟨gs,n,none⟩ (.bool true)) bs bg bt gs N cs fg (S.set n true) vst sts:=by
 obtain⟨t,j⟩:=h.vg;obtain⟨m,o⟩:=h.gs_row;have d:=eC w gs n (.bool true);have a:∀ {b:Nat} {t:TypeId} {cs:Array Value},w.heap[b]?=some (.cells cs t (0,0))->t≠4->b≠gs:=by
  rintro b t cs g p rfl;rw [o] at g;injection g with g
  injection g with _ h2
  exact p h2.symm
 have f:(zS S).set n (.bool true)=zS (S.set n true):=by simp [zS,List.map_set]
 have c:=(h.ds.stored n (.bool true)).1;rw [f] at c;refine⟨h.ext.setCell h.gs_lt.1 _,h.vs.frm d (a h.vs dM),c,⟨t,j.frm d h.hgg⟩,h.vt.frm d (a h.vt dM),zh h.dt d (fun b hv=>?_),h.nd.frm d (fun k hk cs hc=>?_),h.hs,h.hg,h.ht,h.hgt,h.hgg,h.hgv⟩
 ·obtain⟨l,i⟩:=h.vst_row hv;exact a i dM
 ·exact a hc dM hk
theorem Sea.push {c':Nat} {A':Option Addr} {p:Stp}(h:Sea w0 w bs bg bt gs N cs fg S vst sts) (zjc:w'.ownsRow w0.heap.size 261 3 (.slice (some g) (sts.length+1) cap) (sts.length+1) (zbS sts++[.int .i64 p.parent,.int .i64 (p.letter:Nat),.slice A' l c']))
  (hg:w.grownBy w' vst.ownBlock) (hat:vst.ownBlock=some g∨g=w.heap.size+1) (hl:l=p.nodes.length) (hA:zaf w A' l p.nodes) :
  Hid (w'.cell? bt=some vst)∧w'.frozen? bt=false∧Sea w0 (w'.setCell bt (.slice (some g) (sts.length+1) cap)) bs bg bt gs N cs fg S (.slice (some g) (sts.length+1) cap) (sts++[(p,.slice A' l c')]):=by
 obtain⟨t,x⟩:=h.vg;have o:=Frm.af hg;have a:∀ {b:Nat} {t:TypeId} {cs:Array Value},w.heap[b]?=some (.cells cs t (0,0))->t≠261->¬ (vst.ownBlock=some b):=by
  intro b t cs c H d;obtain⟨f,F⟩:=h.vst_row d;rw [F] at c;injection c with c
  injection c with _ h2
  exact H h2.symm
 obtain⟨f,r⟩:=h.gs_row;have n:Blk w' bt 259 #[vst]:=h.vt.frm o (a h.vt dM);have z:=h.vs.frm o (a h.vs dM);have D:=zh h.ds o (fun b d=>by
  have c:gs=b:=by simpa [Value.ownBlock] using d
  subst c;exact a r dM)
 have y:=x.frm o (fun d=>h.hgv _ d rfl);have G:=h.nd.frm o (fun k hk cs hc=>a hc dM hk);have B:=hA.frm o (fun k hk cs hc=>a hc dM hk);have u:w'.heap[gs]?=some (.cells f 4 (0,0)):=(o.block gs h.gs_lt.2 (a r dM)).trans r;have M:Ext w0 w':=h.ext.frm o (fun k hk d=>by have:=(h.dt.lt k d).1;omega);have s:g≠bg:=by
  rcases hat with i|i
  ·exact h.hgv g i
  ·have:=x.lt;omega
 have q:∃ f,w'.heap[g]?=some (.cells f 261 (0,0)):=by
  rcases zjc.2 with ⟨d,_⟩|⟨L,I,f,d,_,F,_⟩
  ·injection d with i;cases i
  ·have:g=L:=by injection d with i;injection i with i;injection i
   subst this;exact⟨f,F⟩
 obtain⟨J,q⟩:=q;have j:=eC w' bt 0 (.slice (some g) (sts.length+1) cap);have m:∀ {b:Nat} {t:TypeId} {cs:Array Value},w'.heap[b]?=some (.cells cs t (0,0))->t≠259->b≠bt:=by
  rintro b t cs c H rfl;unfold Blk at n;rw [n] at c;injection c with c
  injection c with _ h2
  exact H h2.symm
 have E:=zh zjc j (fun b d=>by
  have c:g=b:=by simpa [Value.ownBlock] using d
  subst c;exact m q dM)
 have v:=G.frm j (fun k hk cs hc=>m hc dM hk);have C:=B.frm j (fun k hk cs hc=>m hc dM hk);refine⟨n.cell 0,n.frozen 0,M.setCell h.ht _,z.frm j (m z dM),zh D j (fun b d=>by
  have c:gs=b:=by simpa [Value.ownBlock] using d
  subst c;exact m u dM),⟨t,y.frm j h.hgt⟩,by simpa using n.ab 0 _,?_,?_,h.hs,h.hg,h.ht,h.hgt,h.hgg,fun b d=>?_⟩
 ·rw [zhC];simpa [zbS] using E
 ·intro k p' v' hk;rcases fY k sts.length with i|i|i
  ·rw [eI i] at hk;exact v k p' v' hk
  ·rw [eM oM,i,fO] at hk;have:=Option.some.inj hk;injection this with e1 e2
   subst e1;subst e2;subst hl;exact⟨A',c',rfl,C⟩
  ·rw [eP (by simp;omega)] at hk;cases hk
 ·have c:g=b:=by simpa [Value.ownBlock] using d
  subst c;exact s
end
def RetVisit (w0 w:World) (bs bg bt gs N cs:Nat) (fg:Value) (S:List Bool) (sts:List (Stp × Value)) (goal:Nat->Bool) (parent:Int) (letter:Nat) (ns:List Nat) (e:Ending) (w':World):Prop:=
 e=.returned (.bool ((vis S ns).2.any goal))∧Ext w0 w'∧w.heap.size<=w'.heap.size ∧
  ∃ (vst:Value) (sts':List (Stp × Value)),Sea w0 w' bs bg bt gs N cs fg (vis S ns).1 vst sts' ∧
   (((vis S ns).2=[]∧sts'=sts)∨((vis S ns).2≠[]∧∃ v,sts'=sts++[(⟨parent,letter,(vis S ns).2⟩,v)]))
theorem vis_take {S:List Bool}  (h:ns[k]?=some n):vis S (ns.take (k+1))=visN (vis S (ns.take k)) n:=by
 rw [eH,h];exact vis_snoc _ _ _
theorem Frm.grown_ {row:Option Nat}(h:Frm T w W)(hg:W.grownBy W' row)(hr:∀ k,row=some k->w.heap.size<=k):Frm T w W':=
 ⟨hg.os.trans h.os,hg.tape.trans h.tape,hg.output.trans h.output,eJ h.size hg.size,fun k hk hn=>(hg.block k (eU hk h.size) (fun e=>by have:=hr k e.symm;omega)).trans (h.block k hk hn)⟩
theorem any_snoc {l:List Nat}  {p:Nat->Bool}:(l++[n]).any p=(l.any p || p n):=sM
theorem zhn {bs bg bt gs cs:Nat}  {goal:Nat->Bool} {S:List Bool} {vst:Value} {sts:List (Stp × Value)}  {letter:Nat} {parent:Int} 
  (h:Sea w0 w bs bg bt gs N cs (.func (.func kg) #[] capg) S vst sts) (hA:zaf w A m ns) (hN:∀ n∈ns,n<N) (hm:m<=1099511627776) (hst:sts.length<=1073741824)
  (hin:∀ args W,(callFunc kg args).run Tryz.prog W=.ok (.enter kg args) W) (hgoal:∀ W,Ext w0 W->∀ n,n<N->Calls Tryz.prog kg (#[.int .i64 (n:Nat)]++capg) W fun e W'=>e=.returned (.bool (goal n))∧Ext W W') :
  Calls Tryz.prog 244 #[parent,letter,.slice A m c,.pointer (some bs),.pointer (some bg),.pointer (some bt)] w (RetVisit w0 w bs bg bt gs N cs (.func (.func kg) #[] capg) S sts goal parent letter ns):=by
 have ax:=za (show S.length=N by have:=h.ds.1;rw [zaO] at this;omega);have ah:=za hA.1;have ad:=za hN;have s:=za hgoal;have X:=h.vs.lt;have G:bg<w.heap.size:=by obtain⟨t,hh⟩:=h.vg;exact hh.lt
 have h3:=h.vt.lt;have h4:=h.gs_lt;have h5:=za (fun b (hb:vst.ownBlock=some b)=>(h.dt.lt b hb).2);have h0:=h.ext.size;have B:=za (show ∀ k,k=gs->∀ cs,w.heap[k]?≠some (.cells cs 3 (0,0)) by
  rintro k rfl ar J;obtain⟨au,hh⟩:=h.gs_row;rw [hh] at J;injection J with J
  injection J with _ G
  exact absurd G dM)
 have Z:=za h.nd;clear hN hgoal
 go_enter Tryz.func244,Tryz.ntmps244
 go_wp2_with fail
 go_loopw [10,11,16] (fun v q i wr=>∃ k:Nat,k<=m∧i=.int .i64 k∧q=.bool ((vis S (ns.take k)).2.any goal)∧wr.ownsRow w.heap.size 3 1 v (vis S (ns.take k)).2.length (zU (vis S (ns.take k)).2)∧(vis S (ns.take k)).2.length<=k ∧
   Sea w0 wr bs bg bt gs N cs (.func (.func kg) #[] capg) (vis S (ns.take k)).1 vst sts∧Frm (fun b=>b=gs) w wr) (fun _ _ i _=>m - (intOf i).toNat)
 case atStart=>exact⟨0,eD _,rfl,rfl,World.ownsRow_nil _ _ _ _,eD _,h,Frm.refl _ _⟩
 case round =>
  clear h;obtain⟨k,Y,rfl,rfl,f,y,h,z⟩:=hrel;have C:=za (show (vis S (ns.take k)).1.length=N by have:=h.ds.1;rw [zaO] at this;omega)
  by_cases hlt:k<m
  ·obtain⟨g,o,n,rfl,hx,J⟩:=(hA.frm z B.out).at_ hlt;have ag:=ad.out n (eB hx.out);have U:=za (vis_take (S:=S) hx.out);generalize vis S (ns.take k)=st at *;obtain⟨T,l⟩:=st;simp only at f y h C;obtain⟨V,O⟩:∃ V,Hid (T[n]?=some V):=⟨_,dC (oH C.out)⟩;have Q:=za (show T.getD n true=V by rw [eF,O.out];rfl);have cS:=h.vs.cell;have cD:wr.cell? ⟨gs,n,none⟩=some (.bool V):=by rw [h.ds.cellAt n oM];simp [zS,O.out]
   have fD:=h.ds.frozenAt n;cases V
   ·have a:=za (U.out.trans (show visN (T,l) n=(T.set n true,l++[n]) by unfold visN;rw [if_neg (by rw [Q.out];decide)]));have af:=h.mark (n:=n);have L:Frm (fun b=>b=gs) w (wr.setCell ⟨gs,n,none⟩ (.bool true)):=z.cell rfl _;have am:=h4.2;have j:=zh f (eC wr gs n (.bool true)) (fun b hv hS=>by have:=(f.lt b hv).1;omega);have ay:∃ tg,Blk wr bg tg #[.func (.func kg) #[] capg]:=h.vg;cases hfb:l.any goal
    all_goals
     have F:=za hfb;clear hfb;go_upto_region 8 with fail
     generalize wr.setCell ⟨gs,n,none⟩ (.bool true)=w2 at *;go_wp2_with (at_builtin;refine zbe w _ rfl _ _ _ rfl 3 _ 1 8 Tryz.underlying128 zai rfl dM u10 l.length (zU l) _ _ rfl rfl L.size j rfl (by simp [Value.oneCell']) lM oM ?_;intro g5 cap5 w3 zjn hg3 hat3 hlt3;have D:Frm (fun b=>b=gs) w w3:=L.grown_ hg3 (fun k Y=>(j.lt k Y).1);have d:=af.far (Frm.af hg3) (fun k Y=>(j.lt k Y).1) X G h3 h4.2 h5.out h0 (Z.out.frm D B.out);obtain⟨tg,I⟩:=d.vg;have aq:=I.cell)
    ·refine (s.out w3 d.ext n ag).mono (mQ fun w4 E=>?_);go_wp2_with fail
     go_roundw
     case rel=>exact⟨k+1,oM,gM,by rw [a.out,any_snoc,F.out];rfl,by rw [a.out];simpa [zU] using zg zjn E,by rw [a.out];simp;omega,by rw [a.out];exact d.aq E,D.ext E⟩
     case measure=>simp [intOf];omega
    ·go_roundw
     case rel=>exact⟨k+1,oM,gM,by rw [a.out,any_snoc,F.out];rfl,by rw [a.out];simpa [zU] using zjn,by rw [a.out];simp;omega,by rw [a.out];exact d,D⟩
     case measure=>simp [intOf];omega
   ·have a:=za (U.out.trans (show visN (T,l) n=(T,l) by unfold visN;rw [if_pos Q.out]));go_wp2_with fail
    go_roundw
    case rel=>exact⟨k+1,oM,gM,by rw [a.out],by rw [a.out];exact f,by rw [a.out];exact Nat.le_succ_of_le y,by rw [a.out];exact h,z⟩
    case measure=>simp [intOf];omega
  ·obtain rfl:k=m:=oM;have R:ns.take k=ns:=eE (oH ah.out);rw [R] at f y h ⊢;have ai:=z.size;clear R C;obtain⟨A',c',rfl⟩:=zi f;have H:=zaf.own f;have u:=za (show ∀ W vst' sts',Sea w0 W bs bg bt gs N cs (.func (.func kg) #[] capg) (vis S ns).1 vst' sts'->w.heap.size<=W.heap.size->(((vis S ns).2=[]∧sts'=sts)∨((vis S ns).2≠[]∧∃ v,sts'=sts++[(⟨parent,letter,(vis S ns).2⟩,v)]))->RetVisit w0 w bs bg bt gs N cs (.func (.func kg) #[] capg) S sts goal parent letter ns (.returned (.bool ((vis S ns).2.any goal))) W from fun W vst' sts' X G h3=>⟨rfl,X.ext,G,vst',sts',X,h3⟩);clear s hin;generalize vis S ns=st at *;obtain⟨T,l⟩:=st;simp only at f y h H u ⊢;generalize l.any goal=aa at *;cases hfr0:l with
   |nil =>
    subst hfr0;go_wp2_with fail
    go_ret;exact u.out _ _ _ h ai (Or.inl sM)
   |cons x r =>
    have al:0<l.length:=by rw [hfr0];simp
    have M:=za (show l≠[] by rw [hfr0];simp);rw [← hfr0];clear hfr0;have cT:=h.vt.cell;go_wp2_with (at_builtin;refine zbe w0 wr rfl _ _ _ rfl 261 _ 3 40 Tryz.underlying259 info_step rfl dM vst sts.length (zbS sts) _ _ rfl rfl h.ext.size h.dt rfl (by simp [Value.oneCell']) lM oM ?_;intro g5 cap5 w3 zjn hg3 hat3 hlt3;obtain⟨q1,q2,q3⟩:=h.push (p:=⟨parent,letter,l⟩) zjn hg3 hat3 rfl H;have aA:=q1.out;have an:=hg3.size)
    go_ret;exact u.out _ _ _ q3 (by simp;omega) (Or.inr ⟨M.out,_,rfl⟩)
section
open Go.Lib Go.Sort
abbrev zhJ (n:Int):Value:=.int .u8 n
set_option maxRecDepth 1000000 in
theorem rev_bytes (blk off cap:Nat) (d:Array Int) (w:World)(hH:Holds zhJ w blk off d)(hsz:d.size<=9223372036854775807) :
  Calls Tryz.prog 277 #[.slice (some ⟨blk,off,none⟩) d.size cap] w fun e w'=>e=.returned (.tuple #[])∧∃ n,w'=putRow zhJ (Sort.ahead w n) blk off d.reverse:=by
 have p:Tryz.prog.follows .mixedOrders=true:=kM
 go_enter Tryz.func277,Tryz.ntmps277
 go_wp2
 go_loopg [2,3] d.size (fun k s2 s3 wr=>∃ (i a:Nat) (j:Int) (b:Array Int) (n:Nat),s2=.int .i64 i∧s3=.int .i64 j∧((i:Int)<j->j=a∧a<d.size)∧(¬ (i:Int)<j->¬ i<a)∧a - i<=k ∧
  b.size=d.size∧wr=putRow zhJ (Sort.ahead w n) blk off b∧reverseLoop i a b=reverseLoop 0 (d.size - 1) d)
 case atStart=>exact⟨0,d.size - 1,(d.size:Int) - 1,d,0,rfl,rfl,fun h=>⟨oM,oM⟩,fun h=>oM,oM,rfl,(putRow_self zhJ w blk off d hH).symm,rfl⟩
 case round =>
  obtain⟨i,a,j,b,n,rfl,rfl,q,r,z,l,g,c⟩:=hrel
  by_cases hlt:(i:Int)<j
  ·obtain⟨rfl,t⟩:=q hlt;have o:i<a:=oM;have s:i<d.size:=oM;have f:Holds zhJ wr blk off b:=by rw [g];exact holds_putRow zhJ _ blk off d b (holds_ahead zhJ w n blk off d hH) l
   obtain⟨u,x⟩:=f i oM;obtain⟨v,y⟩:=f a oM;have A:Aside (wr=putRow zhJ (Sort.ahead w n) blk off b):=g;clear g f hH q r;go_wp2_with fail
   go_region_o
   go_wp2
   go_roundg (a - 1 - (i+1))
   case measure=>omega
   case rel =>
    rw [reverseLoop,if_pos o] at c;exact⟨i+1,a - 1,(a:Int) - 1,swp b i a,n+1,sM,rfl,fun h=>⟨oM,oM⟩,fun h=>oM,eA _,by rw [size_swp];exact l,
     swap_world zhJ oM oM A.out (by first|rfl|simp [zhJ,getElem!_pos,show a<b.size by omega]) (by first|rfl|simp [zhJ,getElem!_pos,show i<b.size by omega]),c⟩
  ·have m:=r hlt;go_wp2
   go_end0
   refine⟨rfl,n,?_⟩;rw [reverseLoop,if_neg m] at c;rw [← Lib.reverseLoop_reverse,← c]
end
theorem zbp (hl:l<6) (w:World):Calls Tryz.prog 160 #[.int .i64 (l:Nat)] w fun e w'=>e=.returned (.int .u8 ((97+l:Nat):Nat))∧w=w':=by
 go_enter Tryz.func160,Tryz.ntmps160
 go_wp2;go_ret;exact⟨by rw [show (((97+l:Nat):Nat):Int)=97+(l:Int) by omega];rfl,rfl⟩
theorem rev_none (w:World):Calls Tryz.prog 277 #[()] w fun e w'=>e=.returned (.tuple #[])∧w'=w:=by
 go_enter Tryz.func277,Tryz.ntmps277
 go_wp2
 go_loopg [2,3] 0 (fun k s2 s3 wr=>s2=.int .i64 0∧s3=.int .i64 (-1)∧wr=w)
 case atStart=>exact⟨rfl,rfl,rfl⟩
 case round =>
  obtain⟨rfl,rfl,rfl⟩:=hrel;go_wp2
  go_end0
  exact⟨rfl,rfl⟩
theorem ziC:(Tryz.prog.info? 5).map (fun i=>(i.zero,i.size,i.bytes))=some (some (.int .u8 0),1,1):=kM
def lbs (o:List Nat):List Int:=o.map fun l=>((97+l:Nat):Int)
theorem lbs_reverse (o:List Nat):lbs o.reverse=(lbs o).reverse:=by simp [lbs]
def u8s (l:List Int):List Value:=l.map zhJ
theorem Holds.own8 {l:List Int}(h:w.ownsRow base e 1 (.slice (some g) n cap) n (u8s l)):Sort.Holds zhJ w g 0 l.toArray:=by
 intro j hj;have a:j<l.length:=by simpa using hj
 have b:=h.1;simp only [u8s,eQ] at b;refine⟨?_,by rw [eS];exact h.frozenAt j⟩;rw [eS,h.cellAt j oM];simp [u8s,a]
theorem Ext.putRow {d:Array Int}(h:Ext w W)(hg:w.heap.size<=g):Ext w (Sort.putRow zhJ (Sort.ahead W n) g off d):=by
 refine⟨h.os,h.tape,h.output,?_,fun k hk _=>?_⟩
 ·show w.heap.size<=(W.heap.modify g _).size;rw [Array.size_modify];exact h.size
 ·show (W.heap.modify g _)[k]?=_;rw [Array.getElem?_modify,if_neg oM];exact h.heap hk
theorem u8_row:Tryz.prog.underlying 62=some (.slice 5):=kM
theorem u8_und:Tryz.prog.underlying 5=some (.int .u8):=kM
theorem ziX:Tryz.prog.underlying 9=some .string:=kM
theorem Ext.put_some {d:Array Int}(h:Ext w W)(hg:w.heap.size<=g)(hw:∃ n,w'=Sort.putRow zhJ (Sort.ahead W n) g off d):Ext w w':=by
 obtain⟨n,rfl⟩:=hw;exact h.putRow hg
theorem conv_rev {o:List Nat}(h:Sort.Holds zhJ W g 0 (lbs o).toArray)(hw:∃ n,w'=Sort.putRow zhJ (Sort.ahead W n) g 0 (lbs o).toArray.reverse) :
  (convert 62 9 (.slice (some g) o.length cap)).run Tryz.prog w'=.ok (.string (strOfNums (lbs o.reverse))) w':=by
 obtain⟨n,rfl⟩:=hw;have c:=Sort.holds_putRow zhJ _ g 0 _ (lbs o).toArray.reverse (Sort.holds_ahead zhJ W n g 0 _ h) sM;refine run_convert_bytes_arg (P:=Tryz.prog) _ 62 5 u8_row u8_und g 0 o.length cap (lbs o.reverse) (by simp [lbs]) (fun i hi=>?_) _ ziX;rw [(c i (by simpa [lbs] using hi)).1,lbs_reverse];have a:i<(lbs o).reverse.length:=by simpa [lbs] using hi
 have b:i<(lbs o).toArray.reverse.size:=by simpa [lbs] using hi
 rw [getElem!_pos (lbs o).toArray.reverse i b];simp [zhJ,List.getD,dC a,-List.getElem?_reverse,-List.getElem_reverse]
theorem pathWord_any {sts:List (Stp × Value)} {ws:List (List Nat)}(h:w.ownsRow base 261 3 (.slice A n c) n (zbS sts))(hn:sts.length=n)(h0:0<n)(hsz:n<=1073741824)
  (hw:∀ (k:Nat) (p:Stp) (v:Value),sts[k]?=some (p,v)->(p.parent = -1∧ws.getD k []=[])∨∃ a:Nat,p.parent=(a:Int)∧a<k∧p.letter<6∧ws.getD k []=ws.getD a []++[p.letter]) :
  Calls Tryz.prog 245 #[.slice A n c] w fun e w'=>e=.returned (.string (strOfNums (lbs (ws.getD (n - 1) []))))∧Ext w w':=by
 have L:=za hw;have J:=za hn;obtain⟨g,rfl⟩:∃ g,A=some ⟨g,0,none⟩:=by
  rcases h.2 with ⟨_,U⟩|⟨g,cap,z,hv,_⟩
  ·omega
  ·exact⟨g,by injection hv⟩
 have T:=(h.lt g rfl).2;have m:=za (fun (k:Nat) (p:Stp) (v:Value) (D:sts[k]?=some (p,v))=>(show w.cell? ⟨g,k*3,none⟩=some (.int .i64 p.parent)∧w.cell? ⟨g,k*3+1,none⟩=some (.int .i64 (p.letter:Nat)) by
  have V:=(List.getElem?_eq_some_iff.1 D).1;obtain⟨M,O,_⟩:=zhg D;rw [h.cellAt _ oM,h.cellAt _ oM];exact⟨M,O⟩))
 clear hw hn h
 go_enter Tryz.func245,Tryz.ntmps245
 go_wp2
 go_loopw [3,4] (fun v i wr=>∃ (k:Nat) (o:List Nat),k<n∧i=.int .i64 k∧wr.ownsRow w.heap.size 5 1 v o.length (u8s (lbs o))∧Hid (ws.getD (n - 1) []=ws.getD k []++o.reverse)∧o.length+k<n∧Ext w wr)
  (fun _ i _=>(intOf i).toNat)
 case atStart=>exact⟨n - 1,[],oM,by first|go_num|(congr 1;omega),World.ownsRow_nil _ _ _ _,by simp [Hid],by simp;omega,dB _⟩
 case round =>
  obtain⟨k,o,D,rfl,j,b,Z,r⟩:=hrel;obtain⟨p,v,y⟩:∃ p v,sts[k]?=some (p,v):=⟨_,_,dC (oH J.out)⟩;obtain⟨F,G⟩:=m.out k p v y;have H:∀ W,Ext w W->W.cell? ⟨g,k*3,none⟩=some (.int .i64 p.parent):=fun W hW=>hW.aa F;have I:∀ W,Ext w W->W.cell? ⟨g,k*3+1,none⟩=some (.int .i64 (p.letter:Nat)):=fun W hW=>hW.aa G;obtain⟨ad,l,ns⟩:=p;dsimp only at H I;have X:(k:Int)<(n:Int):=oM;clear F G;rcases L.out k _ v y with ⟨d,f⟩|⟨a,d,S,s,f⟩
  ·dsimp only at d;subst d;have u:=za (show ws.getD (n - 1) []=o.reverse by rw [b.out,f];rfl);clear b f y;rcases j.2 with ⟨rfl,t⟩|⟨Q,cap,z,rfl,C,U,_⟩
   ·have Y:o=[]:=List.eq_nil_of_length_eq_zero t;subst Y;have B:∀ W,(convert 62 9 (.slice none 0 0)).run Tryz.prog W=.ok (.string ByteArray.empty) W:=fun W=>run_convert_bytes_nil (P:=Tryz.prog) W 62 5 u8_row u8_und _ _ _ ziX;go_wp2_with (go_at_call 277;refine (rev_none _).mono ?_;rintro e w' ⟨rfl,rfl⟩)
    go_ret;exact⟨by rw [u.out];rfl,r⟩
   ·have x:=rev_bytes Q 0 cap (lbs o).toArray wr (Holds.own8 j) (by simp [lbs];omega);rw [show (lbs o).toArray.size=o.length by simp [lbs]] at x;have R:=za (Holds.own8 j);go_wp2_with (go_at_call 277;refine x.mono (mQ fun w' q=>?_);have B:=conv_rev (cap:=cap) R.out q;have hx:=Ext.put_some r C q;clear q)
    go_ret;exact⟨by rw [u.out];rfl,hx⟩
  ·dsimp only at d f s;subst d;have E:=za (show ws.getD (n - 1) []=ws.getD a []++(o++[l]).reverse by rw [b.out,f];simp);clear b f y;go_wp2_with (first
    |(go_at_call 160;refine (zbp s _).mono ?_;rintro e w' ⟨rfl,rfl⟩)
    |(at_builtin;refine zal w wr rfl (.tmp 19) (.tmp 26) _ rfl 5 _ 1 1 Tryz.underlying62 ziC rfl dM u3 _ _ _ _ rfl rfl r j rfl (zin _) lM oM ?_;intro v' w1 hext1 zjl hg1 hat1))
   go_roundw
   case rel=>exact⟨a,o++[l],oM,rfl,by simpa [u8s,lbs] using zjl,E,by simp;omega,aM⟩
   case measure=>simp [intOf];omega
def zK (w:World) (d:Nat->Nat->List Nat) (start:List Nat) (goal:Nat->Bool) (L:List Nat) (e:Ending) (w':World):Prop:=
 Ext w w'∧((∃ v,e=.returned (.tuple #[.string (strOfNums (lbs v)),.bool true])∧Found d start goal L v)∨(e=.returned (.tuple #[ByteArray.empty,.bool false])∧Lost d start goal L))
theorem Sea.start {w1:World}  {fg:Value} (hx:Ext (w.alloc (.cells #[fg] t)) w1)(hsz:(w.alloc (.cells #[fg] t)).heap.size<w1.heap.size)(hg:Blk (w.alloc (.cells #[fg] t)) w.heap.size t #[fg]) (zjc:w1.ownsRow w.heap.size 4 1 (.slice (some ⟨w.heap.size+1,0,none⟩) N N) N (zS (eN N false))) :
  Sea w ((w1.alloc (.cells #[.slice (some ⟨w.heap.size+1,0,none⟩) N N] 26)).alloc (.cells #[()] 259)) w1.heap.size w.heap.size (w1.heap.size+1) (w.heap.size+1) N N fg (eN N false) (.slice none 0 0) []:=by
 simp only [World.size_alloc] at hsz;have c:Ext w w1:=((dB w).alloc _).trans hx;have f:=eX w1 26 #[.slice (some ⟨w.heap.size+1,0,none⟩) N N];have d:=eX (w1.alloc (.cells #[.slice (some ⟨w.heap.size+1,0,none⟩) N N] 26)) 259 #[()];have a:Ext w1 ((w1.alloc (.cells #[.slice (some ⟨w.heap.size+1,0,none⟩) N N] 26)).alloc (.cells #[()] 259)):=((dB w1).alloc _).alloc _;refine⟨c.trans a,f.ext ((dB _).alloc _),zg zjc a,⟨t,hg.ext (hx.trans a)⟩,by simpa using d,World.ownsRow_nil _ _ _ _,fun k p v hk=>by simp at hk,oM,eA _,oM,oM,oM,fun b hb=>by simp [Value.ownBlock] at hb⟩
theorem sts_add {sts sts':List (Stp × Value)} {a:Int}  (h:(fr=[]∧sts'=sts)∨(fr≠[]∧∃ v,sts'=sts++[(⟨a,l,fr⟩,v)])):sts'.map Prod.fst=addS (sts.map Prod.fst) a l fr:=by
 rcases h with ⟨b,rfl⟩|⟨b,v,rfl⟩
 ·rw [addS,if_pos b]
 ·rw [addS,if_neg b];simp
theorem Bfs.letters {d:Nat->Nat->List Nat} {start:List Nat} {goal:Nat->Bool} {L:List Nat}  {S:List Bool} {st:List Stp} {ws:List (List Nat)} (h:Bfs d start goal L N S st ws i j):∀ (m k:Nat),k<=m->k<st.length->∀ l∈ws.getD k [],l∈L:=by
 intro m
 induction m with
 |zero =>
  intro k hk hlt l hl;obtain rfl:k=0:=oM;rw [h.zero _ (dC hlt)] at hl;cases hl
 |succ m ih =>
  intro k hk hlt l hl;rcases h.word k _ (dC hlt) with ⟨_,_,e⟩|⟨a,b,_,f,_,g,e⟩
  ·rw [e] at hl;cases hl
  ·rw [e] at hl;rcases List.mem_append.1 hl with c|c
   ·exact ih a oM oM l c
   ·rw [List.mem_singleton.1 c];exact eB g
theorem Bfs.words {d:Nat->Nat->List Nat} {start:List Nat} {goal:Nat->Bool} {L:List Nat}  {S:List Bool} {st:List Stp} {ws:List (List Nat)} (h:Bfs d start goal L N S st ws i j)(hL:Rise L) {a:Nat} (ha:a<st.length)(hl:l∈L) (k:Nat) (p:Stp)(hp:(st++[⟨a,l,fr⟩])[k]?=some p) :
  (p.parent = -1∧(ws++[ws.getD a []++[l]]).getD k []=[])∨∃ b:Nat,p.parent=(b:Int)∧b<k∧p.letter<6∧(ws++[ws.getD a []++[l]]).getD k []=(ws++[ws.getD a []++[l]]).getD b []++[p.letter]:=by
 rcases fY k st.length with f|f|f
 ·rw [eI f] at hp;rw [zfc _ (by rw [h.wl];exact f)];rcases h.word k p hp with ⟨_,g,m⟩|⟨b,c,g,m,_,n,o⟩
  ·exact Or.inl ⟨g,m⟩
  ·exact Or.inr ⟨b,g,m,hL.1 _ (eB n),by rw [zfc _ (by rw [h.wl];omega)];exact o⟩
 ·rw [f,eM (eA _),fO] at hp;obtain rfl:=Option.some.inj hp;refine Or.inr ⟨a,rfl,oM,hL.1 _ hl,?_⟩;rw [f,← h.wl,zgG,zfc _ (by rw [h.wl];exact ha)]
 ·rw [eP (by simp;omega)] at hp;cases hp
theorem Frm.out {a b c:World}(h:Frm T a b) (k:Frm S b c)(hS:∀ x,S x->T x):Frm T a c:=h.trans (k.mono fun x _ hx=>hS x hx)
set_option maxHeartbeats 16000000 in
theorem zfb {kn cL:Nat} {AL:Option Addr} {capn:Array Value} {goal:Nat->Bool} {d:Nat->Nat->List Nat} {start L:List Nat} {D:Nat}
  (hA:zaf w A m start) (hstart:∀ n∈start,n<N) (hm:m<=1099511627776) (hL:zaf w AL q L) (hrise:Rise L) (hN:N<=16777216) (hD:D<=4096)
  (hinn:∀ args W,(callFunc kn args).run Tryz.prog W=.ok (.enter kn args) W) (hin:∀ args W,(callFunc kg args).run Tryz.prog W=.ok (.enter kg args) W)
  (hgoal:∀ W,Ext w W->∀ n,n<N->Calls Tryz.prog kg (#[.int .i64 (n:Nat)]++capg) W fun e W'=>e=.returned (.bool (goal n))∧Ext W W')
  (hd:∀ n l,n<N->l∈L->(d n l).length<=D∧∀ x∈d n l,x<N)
  (hnext:∀ W,Ext w W->∀ n l,n<N->l∈L->∀ (base:Nat) (A:Option Addr) (m c:Nat) (xs:List Nat),w.heap.size<=base->base<=W.heap.size->m<=1099511627776->W.ownsRow base 3 1 (.slice A m c) m (zU xs) ->
   Calls Tryz.prog kn (#[.int .i64 (n:Nat),.int .i64 (l:Nat),.slice A m c]++capn) W fun e W'=>∃ A' c',e=.returned (.slice A' (xs++d n l).length c')∧W'.ownsRow base 3 1 (.slice A' (xs++d n l).length c') (xs++d n l).length (zU (xs++d n l))∧Frm (fun k=>(Value.slice A m c).ownBlock=some k) W W') :
  Calls Tryz.prog 182 #[.int .i64 (N:Nat),.slice A m c,.slice AL q cL,.func (.func kn) #[] capn,.func (.func kg) #[] capg] w (zK w d start goal L):=by
 have HA:=za hA;have o:=za hstart;have M:=za hgoal;have al:=za hnext;have Hd:=za hd;have bF:q<=9223372036854775807:=hL.2.1;clear hA hstart hgoal hnext hd
 go_enter Tryz.func182,Tryz.ntmps182
 have aI:Ext w (w.alloc (.cells #[.func (.func kg) #[] capg] 169)):=(dB w).alloc _;have z:=za (eX w 169 #[.func (.func kg) #[] capg]);go_upto_region 4 with (at_make;refine zas w _ rfl _ _ 26 rfl 4 _ 1 1 Tryz.underlying26 zbN _ _ N rfl rfl aI oM lM ?_;intro w1 hext1 zjl hx1 hsz1)
 have aO:w1.ownsRow w.heap.size 4 1 (.slice (some ⟨w.heap.size+1,0,none⟩) N N) N (zS (eN N false)):=by
  have h:=zjl;rw [World.size_alloc] at h;simpa [zS,Value.cells,toList_madeCells_one] using h
 have ah:=Sea.start hx1 hsz1 z.out aO;obtain⟨w2,U0⟩:∃ x,Hid ((w1.alloc (.cells #[.slice (some ⟨w.heap.size+1,0,none⟩) N N] 26)).alloc (.cells #[()] 259)=x):=⟨_,za rfl⟩;have aJ:Ext w w2:=((hext1.alloc _).alloc _).trans (Ext.eq_ U0.out);clear zjl aO hx1 hsz1 z hext1 aI;generalize w1.heap.size+1=bt at *;generalize w1.heap.size=bs at *;rw [U0.out] at *;have au:=zgx (eN N false) start (fun n Q=>by have:=o.out n Q;simpa using this);cases hg:(vis (eN N false) start).2.any goal
 ·have Hg:=za hg;have G:=za (Bfs.begin_ (d:=d) (L:=L) (goal:=goal) o.out (fun x J=>by
   cases z:goal x
   ·rfl
   ·rw [List.any_eq_true.2 ⟨x,J,z⟩] at hg;cases hg))
  have hC:=za ((Cnt.nil N).add (-1) 0 start);clear hg au;go_wp2_with (go_at_call 244;refine (zhn (letter:=0) (parent := -1) ah (HA.out.ext aJ) o.out hm sM hin M.out).mono ?_;rintro e w3 ⟨rfl,av,aG,F,a,X,f⟩;rw [Hg.out];have Y:=za (sts_add f);clear f)
  go_loopw [15,17,18,20] (fun i l r x wr=>∃ (k:Nat) (S:List Bool) (F:Value) (a:List (Stp × Value)) (ws:List (List Nat)),i=.int .i64 k∧k<=a.length∧a.length<=N∧Sea w wr bs w.heap.size bt (w.heap.size+1) N N (.func (.func kg) #[] capg) S F a∧Hid (Bfs d start goal L N S (a.map Prod.fst) ws k 0)∧Hid (Cnt S (a.map Prod.fst)))
   (fun i _ _ _ _=>N+1 - (intOf i).toNat)
  case atStart =>
   simp only [List.map_nil] at Y;have H:=G.out;have O:=hC.out;rw [← Y.out] at H O;exact⟨0,_,F,a,_,rfl,eD _,by have:=O.steps H.some_;rw [H.len] at this;simpa using this,X,za H,za O⟩
  case round =>
   clear X Y G hC av aG;clear F a;obtain⟨k,S,F,a,ws,rfl,hk,af,E,G,hC⟩:=hrel;obtain⟨Av,cv,rfl⟩:=zi E.dt;have cT:=E.vt.cell 0
   by_cases hlt:k<a.length
   ·have am:((k:Int)<(a.length:Int)):=oM;go_wp2
    go_loopw [17,18,20,35] (fun _ _ _ i2 wi=>∃ (j:Nat) (S:List Bool) (F:Value) (a:List (Stp × Value)) (ws:List (List Nat)),i2=.int .i64 j∧j<=q∧k<a.length∧a.length<=N∧Sea w wi bs w.heap.size bt (w.heap.size+1) N N (.func (.func kg) #[] capg) S F a∧Hid (Bfs d start goal L N S (a.map Prod.fst) ws k j)∧Hid (Cnt S (a.map Prod.fst)))
     (fun _ _ _ i2 _=>q - (intOf i2).toNat)
    case atStart=>exact⟨0,S,_,a,ws,rfl,eD _,hlt,af,E,G,hC⟩
    case round =>
     clear E G hC cT hlt am hk af;rename World=>wi
     obtain⟨j,S,F,a,ws,rfl,hj,hk,af,E,G,hC⟩:=hrel
     by_cases hjq:j<q
     ·obtain⟨gl,ol,l,rfl,aw,aD⟩:=hL.at_ hjq;have cL:wi.cell? ⟨gl,ol+j,none⟩=some (.int .i64 (l:Nat)):=E.ext.aa aD;have R:=za (eB aw.out);obtain⟨⟨⟨pp,pl,I⟩,vk⟩,ae⟩:∃ x,Hid (a[k]?=some x):=⟨_,dC hk⟩;obtain⟨Ak,ck,rfl,T⟩:=E.nd k _ vk ae.out;dsimp only at T ae;have V:=za (show (a.map Prod.fst)[k]?=some ⟨pp,pl,I⟩ by rw [eL,ae.out];rfl);have aq:=List.length_pos_iff.2 (G.out.some_ k _ V.out);have aW:I.length<=N:=by have:=hC.out.nodes V.out;rw [G.out.len] at this;exact this
      have s:=za (G.out.small k _ V.out);dsimp only at aq s;have cV:wi.cell? bt=some F:=E.vt.cell 0;obtain⟨Av,cv,rfl⟩:=zi E.dt;obtain⟨gv,rfl⟩:∃ gv,Av=some ⟨gv,0,none⟩:=by
       rcases E.dt.2 with ⟨_,hh⟩|⟨g,bq,bu,hv,_⟩
       ·omega
       ·exact⟨g,by injection hv⟩
      obtain⟨mk,ap⟩:∃ mk,Hid (mk=I.length):=⟨_,rfl⟩;have cK:wi.cell? ⟨gv,k*3+2,none⟩=some (.slice Ak mk ck):=by
       rw [E.dt.cellAt _ oM,ap.out];exact (zhg ae.out).2.2
      rw [← ap.out] at T aq aW;obtain⟨gk,ok,_,rfl,_,_⟩:=T.at_ aq;have aQ:=za T;have h1:=E.vs.lt;have h2:w.heap.size<wi.heap.size:=by obtain⟨t,hh⟩:=E.vg;exact hh.lt
      have h3:=E.vt.lt;have h4:=E.gs_lt.2;have h0:=E.ext.size;have az:=za (show ∀ b,wi.heap.size<=b->∀ cs,wi.heap[b]?≠some (.cells cs 3 (0,0)) from fun b hb cs hc=>by
       have:=(Array.getElem?_eq_some_iff.1 hc).1;omega)
      have bG:=(E.dt.lt gv rfl).2;have ay:=za (fun W (hW:Frm (fun b=>wi.heap.size<=b) wi W)=>E.far hW (fun _ h=>h) h1 h2 h3 h4 (fun b hb=>by have:gv=b:=(by simpa [Value.ownBlock] using hb);omega) h0 (E.nd.frm hW az.out));have bD:(k:Int)<(a.length:Int):=oM;have bC:(j:Int)<(q:Int):=oM;clear T aD E h1 h3 h4;go_wp2_with fail
      go_loopw [18,20,45] (fun v _ i3 wr=>∃ i:Nat,i3=.int .i64 i∧i<=mk∧wr.ownsRow wi.heap.size 3 1 v (reach d l (I.take i)).length (zU (reach d l (I.take i)))∧Frm (fun b=>wi.heap.size<=b) wi wr) (fun _ _ i3 _=>mk - (intOf i3).toNat)
      case atStart=>exact⟨0,rfl,eD _,World.ownsRow_nil _ _ _ _,Frm.refl _ _⟩
      case round =>
       obtain⟨i,rfl,hi,aa,ad⟩:=hrel;have aC:=za (ay.out wr ad);have a0:=ad.size;have aZ:(reach d l (I.take i)).length<=1099511627776 - 4096:=by
        have e1:=reach_len (d:=d) (l:=l) (D:=D) (ns:=I.take i) (fun n Q=>(Hd.out n l (s.out n (gU Q)) R.out).1);have e2:=fX (show (I.take i).length<=16777216 by rw [fH];omega) hD;omega
       obtain⟨A0,c0,rfl⟩:=zi aa;clear cL cV cK
       by_cases hil:i<mk
       ·obtain⟨g',o',n,aB,Q,cN⟩:=(aQ.out.frm ad az.out).at_ hil;obtain⟨rfl,rfl⟩:gk=g'∧ok=o':=by injection aB with e;injection e with e1 e2;exact⟨e1,e2⟩
        have aF:=s.out n (eB Q.out);have aX:=za (al.out wr aC.out.ext n l aF R.out wi.heap.size A0 _ c0 _ h0 a0 oM aa);clear aB;go_wp2_with fail
        refine aX.out.mono ?_;rintro e w4 ⟨A',c',rfl,U,aV⟩;have aE:=za (fun b (hb:(Value.slice A0 (reach d l (I.take i)).length c0).ownBlock=some b)=>(aa.lt b hb).1);go_wp2_with fail
        go_roundw
        case rel=>exact⟨i+1,gM,oM,by rw [reach_take Q.out];rw [eO] at U ⊢;exact U,ad.out aV aE.out⟩
        case measure=>simp [intOf];omega
       ·obtain rfl:i=mk:=oM;have a1:I.take i=I:=eE (oH ap.out);rw [a1] at aa aZ ⊢;have ar:=za (fun x (J:x∈reach d l I)=>by
         obtain⟨n,Q,J⟩:=zgR.1 J;exact (Hd.out n l (s.out n Q) R.out).2 x J)
        have ai:=za (zhn (letter:=l) (parent:=(k:Int)) (c:=c0) aC.out (zaf.own aa) ar.out oM oM hin M.out);cases hg:(vis S (reach d l I)).2.any goal
        ·have Hg:=za hg;have H:=za (G.out.step hrise V.out aw.out (fun x=>zgR) ar.out (fun x J=>by
          cases z:goal x
          ·rfl
          ·rw [List.any_eq_true.2 ⟨x,J,z⟩] at hg;cases hg))
         have O:=za (hC.out.add (k:Int) l (reach d l I));clear hg;go_wp2_with fail
         refine ai.out.mono ?_;rintro e w4 ⟨rfl,aK,aH,aj,C,B,f⟩;rw [Hg.out];have Y:=za (sts_add f);have bh:a.length<=C.length:=by
          rcases f with ⟨_,rfl⟩|⟨_,v,rfl⟩<;>simp
         rw [← Y.out] at H O;go_wp2_with fail
         go_roundw
         case rel=>exact⟨j+1,_,aj,C,_,gM,oM,oM,(by have:=O.out.steps H.out.some_;rw [H.out.len] at this;simpa using this),B,H,O⟩
         case measure=>simp [intOf];omega
        ·have Hg:=za hg;obtain⟨x,J,z⟩:=List.any_eq_true.1 hg;have ag:=((zgx S (reach d l I) (fun n Q=>by rw [G.out.len];exact ar.out n Q)).2.2 x).1 J;obtain⟨n,Q,aL⟩:=zgR.1 ag.1;have hF:=za (show Found d start goal L (ws.getD k []++[l]) from ⟨fun m hm=>(by
          rcases List.mem_append.1 hm with h|h
          ·exact G.out.letters k k (eA _) (by simpa using hk) m h
          ·rw [List.mem_singleton.1 h];exact R.out),⟨x,(G.out.goes k _ V.out n Q).snoc aL,z⟩,fun u hu hlt y hy=>G.out.found hrise (by simpa using hk) aw.out hu hlt hy⟩)
         clear hg z ag aL;go_wp2_with fail
         refine ai.out.mono ?_;rintro e w4 ⟨rfl,aK,aH,aj,C,B,f⟩;rw [Hg.out];obtain⟨_,v4,Z⟩:(vis S (reach d l I)).2≠[]∧∃ v,C=a++[(⟨(k:Int),l,(vis S (reach d l I)).2⟩,v)]:=by
          rcases f with ⟨h,_⟩|h
          ·rw [h] at J;cases J
          ·exact h
         have an:C.length=a.length+1:=by rw [Z];simp
         obtain⟨A4,c4,rfl⟩:=zi B.dt;have bp:=B.vt.cell 0;have aY:=za (show Calls Tryz.prog 245 #[.slice A4 C.length c4] w4 fun e w'=>e=.returned (.string (strOfNums (lbs (ws.getD k []++[l]))))∧Ext w4 w' by
          have aN:=pathWord_any (ws:=ws++[ws.getD k []++[l]]) B.dt rfl oM oM (fun i p v hi=>by
           have hm:(C.map Prod.fst)[i]?=some p:=by rw [eL,hi];rfl
           rw [Z,fB] at hm;exact G.out.words hrise (by simpa using hk) R.out i p hm)
          rw [an,Nat.add_sub_cancel,show a.length=ws.length by have:=G.out.wl;simpa using this.symm,zgG] at aN;rw [an,show a.length=ws.length by have:=G.out.wl;simpa using this.symm];exact aN)
         clear J f Z an;go_wp2_with fail
         refine aY.out.mono (mQ fun w5 a3=>?_);go_wp2_with fail
         go_ret2;exact⟨aK.trans a3,Or.inl ⟨_,rfl,hF.out⟩⟩
     ·obtain rfl:j=q:=oM;have bE:=hL.1;have aT:=za (G.out.row oM);go_wp2;go_roundw
      case rel=>exact⟨k+1,S,F,a,ws,gM,oM,af,E,aT,hC⟩
      case measure=>simp [intOf];omega
   ·obtain rfl:k=a.length:=oM;have ao:=za (show Lost d start goal L from fun v hv x J=>G.out.none sM hv J);have ag:=E.ext;go_wp2;go_ret2;exact⟨ag,Or.inr ⟨rfl,ao.out⟩⟩
 ·have Hg:=za hg;obtain⟨x,J,z⟩:=List.any_eq_true.1 hg;have hF:=za (show Found d start goal L [] from ⟨fun l hl=>(by cases hl),⟨x,.nil ((au.2.2 x).1 J).1,z⟩,fun u _ hu=>by rw [zfA] at hu;omega⟩);clear hg au;go_wp2_with (go_at_call 244;refine (zhn (letter:=0) (parent := -1) ah (HA.out.ext aJ) o.out hm sM hin M.out).mono ?_;rintro e w' ⟨rfl,av,_⟩;rw [Hg.out])
  go_ret2;exact⟨av,Or.inl ⟨[],rfl,hF.out⟩⟩
theorem stepB_low (hf:Few k0 es)(hb:x.testBit j=true)(hl:∀ i,i<j->x.testBit i=false) (l:Int):zbU es x l=succ es j l|||zbU es (x - 2 ^ j) l:=by
 apply gI;intro k;rw [Nat.testBit_or,Bool.eq_iff_iff,gO,zdt,zdt,zdD];constructor
 ·rintro ⟨e,b,⟨c,a⟩,d⟩;have:=hf e b
  by_cases e1:e.fr.toNat=j
  ·exact Or.inl ⟨e,b,⟨oM,c⟩,d⟩
  ·refine Or.inr ⟨e,b,⟨c,?_⟩,d⟩;rw [zcE hb hl,a];simp [e1]
 ·rintro (⟨e,b,⟨c,a⟩,d⟩|⟨e,b,⟨c,a⟩,d⟩)
  ·exact⟨e,b,⟨a,by rw [c];exact hb⟩,d⟩
  ·rw [zcE hb hl] at a;simp only [eG] at a;exact⟨e,b,⟨c,a.1⟩,d⟩
theorem stepB_zero (es:List Edg) (l:Int):zbU es 0 l=0:=by
 apply gI;intro k;rw [Nat.zero_testBit,fQ];intro h;obtain⟨e,_,⟨_,a⟩,_⟩:=(zdt es 0 l k).1 h;simp at a
theorem impl_step {bm set:Nat} (hm:MovAt w bm es)(hT:Tab w)(hset:set<2 ^ 16)(hl:l<6)(hf:Few k0 es)(hk0:k0<=16) :
  Calls Tryz.prog 246 #[.pointer (some bm),set,l] w fun e w'=>e=.returned (.int .i64 (zbU es set l:Nat))∧Ext w w':=by
 have g:set<65536:=by simpa using hset
 have D:=za hf;clear hf
 go_enter Tryz.func246,Tryz.ntmps246
 go_wp2
 go_loopw [1,7] (fun s v wr=>∃ x:Nat,s=.int .i64 x∧x<65536∧∃ y:Nat,v=.int .i64 y∧Sm y∧Hid (zbU es set l=y|||zbU es x l)∧Ext w wr) (fun s _ _=>(intOf s).toNat)
 case atStart=>exact⟨set,rfl,g,0,rfl,tM,by simp [Hid],dB _⟩
 case round =>
  obtain⟨x,rfl,Y,y,rfl,L,r,c⟩:=hrel
  by_cases h0:x=0
  ·subst h0;go_wp2;go_ret;have F:=r.out;rw [stepB_zero,Nat.or_zero] at F;exact⟨zG (by rw [F]),c⟩
  ·have q:Sm x:=tM;obtain⟨j,I,J,k,m,d,B⟩:=lowest h0 q;have i:j<16:=by
    rcases fK j 16 with h|h
    ·exact h
    ·have:=Nat.pow_le_pow_right (n:=2) oM h;omega
   have X:=Nat.two_pow_pos j;have o:=za (stepB_low D.out k m l);have E:=hm j l i hl;have U:∀ W,Ext wr W->W.cell? ⟨bm,j*6+l,none⟩=some (.int .i64 (succ es j l:Nat)):=fun W hW=>(c.trans hW).aa E;have t:=za (fun W (hW:Ext wr W)=>hT.ext (c.trans hW));have M:=succ_sm D.out hk0 j l;have O:=za (zaV L M);have R:((x:Int) != 0)=true:=by simp;omega
   have G:=za (zce (a:=x) (b:=x - 1) q tM);have H:=za (show ((x:Int) - 1)=((x - 1:Nat):Int) by omega);have Z:IntKind.u64.wrap (x:Int)=x:=by rw [IntKind.wrap_u64];omega
   have C:=za (fun W (hW:Ext wr W)=>(show Calls Tryz.prog 276 #[.int .u64 x] W fun e w'=>e=.returned (.int .i64 j)∧W=w' by rw [← I];exact tz x oM h0 W (t.out W hW)));have S:=dB wr;have T:x - 2 ^ j<x:=oM;have p:x&&&(x - 1)=x - 2 ^ j:=d;have f:=za p;have Q:(l:Int)<6:=oM;have u:(j:Int)<16:=oM;clear I k m d p h0 B E;generalize succ es j l=z at *;go_wp2_with fail
   go_region_held3 (fun W=>Ext wr W) (first|assumption|(refine fW ?_;assumption)|(refine Ext.trans ?_ aM;assumption)|(refine Ext.trans ?_ aM;refine fW ?_;assumption)) ((go_at_call 276;refine (C.out _ ?_).mono ?_;(first|assumption|(refine fW ?_;assumption));rintro e w' ⟨rfl,rfl⟩))
   go_wp2_with fail
   go_roundw
   case rel=>exact⟨x&&&(x - 1),by rw [H.out,G.out],by rw [f.out];omega,y|||z,by rw [O.out],L.or M,by unfold Hid;rw [r.out,o.out,f.out,Nat.or_assoc],c.trans aM⟩
   case measure =>
    have:=G.out;rw [← H.out] at this;have V:=f.out;simp [intOf];omega
theorem zfW (a:Nat):Rise (letters a 6):=by
 refine⟨fun l hl=>(mem_letters.1 hl).1,fun i j x y hx hy hij=>?_⟩;have b:(letters a 6).Pairwise (·<·):=List.Pairwise.filter _ kA;obtain⟨c,rfl⟩:=List.getElem?_eq_some_iff.1 hx;obtain⟨d,rfl⟩:=List.getElem?_eq_some_iff.1 hy;exact List.pairwise_iff_getElem.1 b i j c d hij
theorem Blk.ne {a:Nat} {u:TypeId} {ds:Array Value}(h:Blk w a t cs)(h':Blk w b u ds)(ht:t≠u):a≠b:=by
 rintro rfl;unfold Blk at h h';rw [h] at h';injection h' with h'
 injection h' with _ h2
 exact ht h2
theorem zcO (h:Blk w g 3 #[.int .i64 (x:Nat)]):zaf w (some ⟨g,0,none⟩) 1 [x]:=by
 refine⟨rfl,oM,fun _=>⟨g,0,_,rfl,h,fun j y hj=>?_⟩⟩;cases j with
 |zero =>
  obtain rfl:=Option.some.inj hj;rw [h.cell];rfl
 |succ j=>simp at hj
theorem rising_pw :Rising es↔es.Pairwise (fun x y=>ltE x y=true):=by
 rw [List.pairwise_iff_getElem];constructor
 ·intro h i j hi hj hij;exact h i j _ _ (dC hi) (dC hj) hij
 ·intro h a b x y hx hy hab;obtain⟨c,rfl⟩:=List.getElem?_eq_some_iff.1 hx;obtain⟨d,rfl⟩:=List.getElem?_eq_some_iff.1 hy;exact h a b c d hab
theorem zhS (a k:Nat):(letters a k).Pairwise (·<·):=List.Pairwise.filter _ kA
theorem asc_ext:∀ {l m:List Nat},l.Pairwise (·<·)->m.Pairwise (·<·)->(∀ x,x∈l↔x∈m)->l=m:=by
 intro l
 induction l with
 |nil =>
  intro m _ _ h;cases m with
  |nil=>rfl
  |cons y s=>exact absurd ((h y).2 sM) sM
 |cons x r ih =>
  intro m hl hm h;cases m with
  |nil=>exact absurd ((h x).1 sM) sM
  |cons y s =>
   rw [List.pairwise_cons] at hl hm;have e:x=y:=by
    have a:=(h x).1 sM;have b:=(h y).2 sM;rcases List.mem_cons.1 a with a|a
    ·exact a
    ·rcases List.mem_cons.1 b with b|b
     ·exact b.symm
     ·have:=hl.1 y b;have:=hm.1 x a;omega
   subst e;rw [ih hl.2 hm.2 fun z=>?_];have c:=h z;simp only [List.mem_cons] at c;constructor
   ·intro a;have:=hl.1 z a;rcases c.1 (Or.inr a) with b|b
    ·omega
    ·exact b
   ·intro a;have:=hm.1 z a;rcases c.2 (Or.inr a) with b|b
    ·omega
    ·exact b
def chE (es:List Edg) (q l:Nat):List Nat:=(es.filter fun e=>e.fr==(q:Int)&&e.le==(l:Int)).map fun e=>e.ta.toNat
theorem chE_cho (hf:Few p es)(hp:p<=16)(hr:Rising es) (q l:Nat):chE es q l=letters (succ es q l) 32:=by
 refine asc_ext ?_ (zhS _ _) fun x=>?_
 ·have c:=rising_pw.1 hr;rw [chE,List.pairwise_map,List.pairwise_filter];refine c.imp_of_mem fun {a b} ha hb hab d h3=>?_;simp only [eG,beq_iff_eq] at d h3;have:=ltE_iff.1 hab;have:=hf a ha;have:=hf b hb;omega
 ·rw [zB,zdD,chE,List.mem_map];simp only [List.mem_filter,eG,beq_iff_eq];constructor
  ·rintro ⟨e,⟨c,d⟩,rfl⟩;have:=hf e c;exact⟨oM,e,c,d,rfl⟩
  ·rintro ⟨_,e,c,d,rfl⟩;exact⟨e,⟨c,d⟩,rfl⟩
theorem chE_take {x:Edg}(h:es[k]?=some x) (q l:Nat):chE (es.take (k+1)) q l=chE (es.take k) q l++if x.fr=(q:Int)∧x.le=(l:Int) then [x.ta.toNat] else []:=by
 rw [eH,h];unfold chE;rw [e7,List.filter_append,fB]
 congr 1
 by_cases hc:x.fr=(q:Int)∧x.le=(l:Int)
 ·rw [if_pos hc];simp [hc]
 ·rw [if_neg hc];have:(x.fr==(q:Int)&&x.le==(l:Int))=false:=by
   rw [fQ];intro h;simp only [eG,beq_iff_eq] at h;exact hc h
  simp [this]
theorem chE_len (hf:Few p es)(hp:p<=16)(hr:Rising es) (q l k:Nat):(chE (es.take k) q l).length<=16:=by
 have a:(chE (es.take k) q l).Sublist (chE es q l):=((List.take_sublist k es).filter _).map _;refine eJ a.length_le (eJ (zgU (p:=p) ?_ ?_) hp)
 ·rw [chE_cho hf hp hr];exact zfj _ _
 ·intro x hx;obtain⟨e,b,rfl⟩:=List.mem_map.1 hx;have:=hf e (List.mem_filter.1 b).1;omega
theorem ret_one {y:Nat}(hx:Ext w W)(hb:Blk W g 3 #[.int .i64 (y:Nat)])(hg:w.heap.size<=g):zbI w [y] (.returned (.slice (some g) 1 1)) W:=
 ⟨some ⟨g,0,none⟩,1,rfl,⟨rfl,.inr ⟨g,1,_,rfl,hg,hb,by simp [zU,maxLen]⟩⟩,hx⟩
theorem zhB {us:List Aut}   {m:Mem}(h:zeQ w PA pn AA an ss us)(hok:zdw ss us)(hm:(zaW ss us)[i]?=some m)(hq:q<m.1)(hl:l<6) :
  Calls Tryz.prog 283 #[.agg #[.slice PA pn pc,.slice AA an ac,sv,L,K,G],i,q,l] w (zbI w (m.2 q l)):=by
 have d:Ext w (w.alloc (.cells #[.slice PA pn pc,.slice AA an ac,sv,L,K,G] 168)):=(dB w).alloc _;have H:=eX w 168 #[.slice PA pn pc,.slice AA an ac,sv,L,K,G];have HN:=za (fun W (hW:Ext w W)=>h.ext hW);have r:Hid (pn=ss.length):=by obtain⟨_,_,h1⟩:=h.sys;exact h1.1
 have Q:Hid (an=us.length):=by obtain⟨_,_,h1⟩:=h.aut;exact h1.1
 have a3:pn<=3:=by rw [r.out];exact hok.few
 have aY:an<=2:=by rw [Q.out];exact hok.few'
 by_cases hip:i<pn
 ·have V:ss[i]?=some (ss[i]'(by rw [← r.out];exact hip)):=dC _;generalize ss[i]'(by rw [← r.out];exact hip)=s at V;obtain rfl:m=zdv s:=by
   rw [zaW,eI (by simp;have:=r.out;omega),eL,V] at hm;exact (Option.some.inj hm).symm
  have hv:=hok.sys s (eB V);obtain⟨F,aA,_,C⟩:=valid_iff.1 hv;obtain⟨p,hp,a2,T,hf⟩:=zeg hv;obtain⟨J,E⟩:∃ J:Nat,Hid (s.al=J):=⟨s.al.toNat,by unfold Hid;omega⟩;have X:Sm J:=by have:=E.out;unfold Sm;omega
  have U:=za (show (zdv s).2 q l=if J.testBit l then chE s.edges q l else [q] by
   rw [chE_cho hf T C];simp only [zdv,cho];rw [E.out,Int.toNat_natCast])
  have Hs:=za V;have ai:=za (chE_len hf T C q l);have Hf:=za hf;clear V hv F aA C hf hm hok h hq;rw [U.out];cases hb:J.testBit l
  ·have Hb:=za hb;clear hb
   go_enter Tryz.func283,Tryz.ntmps283
   go_upto_region 1 with fail
   generalize w.alloc _=y at *;have c0:=H.cell;obtain⟨lo,hi,D⟩:=(HN.out y d).sys;obtain⟨b,o,s',B,n,c',rfl,_,_,M,O,e1,e2,u⟩:=D.sys hip;obtain rfl:s=s':=by have:=M.out;rw [Hs.out] at this;exact Option.some.inj this
   rw [E.out] at O;clear e1 D u;go_wp2_with (go_at_call 140;with_reducible refine (zae J l X _ oM).mono ?_;rw [Hb.out];rintro e w' ⟨rfl,rfl⟩)
   go_ret;exact ret_one (d.alloc _) (eX _ _ _) d.size
  ·have Hb:=za hb;clear hb;simp only [if_true]
   go_enter Tryz.func283,Tryz.ntmps283
   go_upto_region 1 with fail
   generalize w.alloc _=y at *;have c0:=H.cell;obtain⟨lo,hi,D⟩:=(HN.out y d).sys;obtain⟨b,o,s',B,n,c',rfl,_,_,M,O,e1,e2,u⟩:=D.sys hip;obtain rfl:s=s':=by have:=M.out;rw [Hs.out] at this;exact Option.some.inj this
   rw [E.out] at O;have ao:=za u.1;have HR:=za (fun W (hW:Ext y W)=>u.2.ext hW);have a1:=u.2.len;clear e1 D u;go_upto_region 6 with (go_at_call 140;with_reducible refine (zae J l X _ oM).mono ?_;rw [Hb.out];rintro e w' ⟨rfl,rfl⟩)
   have Y:w.heap.size<=y.heap.size:=d.size;have ae:=World.ownsRow_lit (base:=y.heap.size) (e:=3) (size:=1) y #[] 0 (eA _) lM rfl;generalize U0:y.alloc _=w2 at *;have I:=Ext.al_ U0;have aq:=(H.ext I).cell;have ar:=I.aa e2;clear U0;clear c0 O e2;go_wp2_with fail
   go_loopw [9,11] (fun v j wr=>∃ k:Nat,k<=n∧j=.int .i64 k∧wr.ownsRow y.heap.size 3 1 v (chE (s.edges.take k) q l).length (zU (chE (s.edges.take k) q l))∧Ext y wr) (fun _ j _=>n - (intOf j).toNat)
   case atStart=>exact⟨0,eD _,rfl,ae,I⟩
   case round =>
    clear ae aq ar I;obtain⟨k,hk,rfl,z,Z⟩:=hrel
    by_cases hlt:k<n
    ·obtain⟨b',o',x,rfl,_,_,ab,d0,d1,d2⟩:=(HR.out wr Z).ar hlt;obtain⟨⟨f0,f1⟩,⟨l0,l1⟩,⟨t0,t1⟩⟩:=Hf.out x (eB ab.out);have g:=za (chE_take ab.out q l);have aO:=ai.out k
     by_cases hfr:x.fr=(q:Int)
     ·by_cases hle:x.le=(l:Int)
      ·obtain⟨t,ht⟩:∃ t:Nat,x.ta=t:=⟨x.ta.toNat,oM⟩;rw [hfr] at d0;rw [hle] at d1;rw [ht] at d2;have f:=za (show chE (s.edges.take (k+1)) q l=chE (s.edges.take k) q l++[t] by rw [g.out,if_pos ⟨hfr,hle⟩,ht];rfl);clear hfr hle f0 f1 l0 l1 t0 t1 ht g;generalize chE (s.edges.take k) q l=cs at *;go_wp2_with (at_builtin;refine zal y wr rfl _ _ _ rfl 3 _ 1 8 Tryz.underlying128 zai rfl dM u9 _ _ _ _ rfl rfl Z z rfl (zaY _) lM oM ?_;intro v' w5 hext5 zjo hg5 hat5)
       go_roundw
       case rel=>exact⟨k+1,oM,gM,by rw [f.out,eO,zdU];exact zjo,hext5⟩
       case measure=>simp [intOf];omega
      ·have az:(x.le==(l:Int))=false:=by simp;omega
       have f:=za (show chE (s.edges.take (k+1)) q l=chE (s.edges.take k) q l by rw [g.out,if_neg (fun h=>hle h.2),gW]);rw [hfr] at d0;clear hfr hle f0 f1 l0 l1 t0 t1 g;go_wp2_with fail
       go_roundw
       case rel=>exact⟨k+1,oM,gM,by rw [f.out];exact z,Z⟩
       case measure=>simp [intOf];omega
     ·have az:(x.fr==(q:Int))=false:=by simp;omega
      have f:=za (show chE (s.edges.take (k+1)) q l=chE (s.edges.take k) q l by rw [g.out,if_neg (fun h=>hfr h.1),gW]);clear hfr f0 f1 l0 l1 t0 t1 g;go_wp2_with fail
      go_roundw
      case rel=>exact⟨k+1,oM,gM,by rw [f.out];exact z,Z⟩
      case measure=>simp [intOf];omega
    ·obtain rfl:n=k:=oM;have ad:=za (show wr.ownsRow w.heap.size 3 1 u9 (chE s.edges q l).length (zU (chE s.edges q l)) by
      rw [eE (oH ao.out)] at z;exact zr z Y)
     obtain⟨A5,c5,rfl⟩:=zi ad.out;have aE:=d.trans Z;clear z;go_wp2;go_ret;exact⟨_,_,rfl,ad.out,aE⟩
 ·obtain⟨j,hj⟩:∃ j,i=pn+j:=⟨i - pn,oM⟩;subst hj;have S:us[j]?.map zbl=some m:=by
   rw [zaW,eM (by simp;have:=r.out;omega),eL] at hm;rw [← hm]
   congr 2
   simp;have:=r.out;omega
  obtain⟨a,E,rfl⟩:=Option.map_eq_some_iff.1 S;have ay:j<an:=by rw [Q.out];exact (List.getElem?_eq_some_iff.1 E).1
  have aD:=za (hok.aut a (eB E));have Ha:=za E;have Hq:=za (show q<a.next.length from hq);clear hm S E hok h hq;change Calls _ _ _ _ (zbI w [aGo a q l])
  go_enter Tryz.func283,Tryz.ntmps283
  go_upto_region 1 with fail
  generalize w.alloc _=y at *;have c0:=H.cell;obtain⟨lo,hi,F⟩:=(HN.out y d).aut;obtain⟨b,o,a',B,m,c,B',m',c',rfl,ax,O,e1,e2,R⟩:=F.aut ay;obtain rfl:a=a':=by have:=ax.out;rw [Ha.out] at this;exact Option.some.inj this
  have aZ:¬ ((pn+j:Nat):Int)<(pn:Int):=oM;have a4:((pn+j:Nat):Int) - (pn:Int)=(j:Int):=oM;have ak:=za R;clear F R;go_wp2_with (go_at_call 222;with_reducible refine (zds ak.out aD.out Hq.out hl).mono (mQ fun w5 aa=>?_))
  go_ret;exact ret_one ((d.trans aa).alloc _) (eX _ _ _) ((d.trans aa).size)
theorem zgm (n:Nat)(h:n<9223372036854775808):IntKind.i64.wrap (n:Int)=(n:Int):=by rw [IntKind.wrap_i64];omega
theorem chs_fst (ms:List Mem) (x l:Nat):(chs ms x l).map Prod.fst=ms.map Prod.fst:=by
 induction ms with
 |nil=>rfl
 |cons m r ih=>simp [chs,ih]
theorem zdw.choices {us:List Aut}(h:zdw ss us) {m:Mem}(hm:m∈zaW ss us) (hq:q<m.1)(hl:l<6):(∀ x∈m.2 q l,x<m.1)∧(m.2 q l).length<=m.1:=by
 refine⟨(h.ok m hm).2 q l hq hl,?_⟩;rcases List.mem_append.1 hm with b|b
 ·obtain⟨s,d,rfl⟩:=List.mem_map.1 b;exact cho_len (zbV (h.sys s d)) hq
 ·obtain⟨a,c,rfl⟩:=List.mem_map.1 b;have:=(zk (h.aut a c)).2.1.1;simp only [zbl];simpa using this
theorem zdw.fwd_ {us:List Aut}(h:zdw ss us) (x:Nat) (hl:l<6) (k:Nat):(fwd ((chs (zaW ss us) x l).take k)).length<=1048576∧∀ y∈fwd ((chs (zaW ss us) x l).take k),y<1048576:=by
 have d:∀ c∈(chs (zaW ss us) x l).take k,(∀ y∈c.2,y<c.1)∧c.2.length<=c.1:=by
  intro c d;obtain⟨i,f⟩:=eT (gU d);have a:=(List.getElem?_eq_some_iff.1 f).1;rw [zfF] at a;have j:(zaW ss us)[i]?=some (zaW ss us)[i]:=dC a;rw [chs_get j] at f;obtain rfl:=Option.some.inj f;have b:=List.getElem_mem a;exact h.choices b (Nat.mod_lt _ (h.ok _ b).1) hl
 have g:=(h.total (((chs (zaW ss us) x l).take k).map Prod.fst) (by rw [← zfk,← chs_fst _ x l];exact (List.take_sublist _ _).map _)).2;refine⟨eJ (fwd_len fun c hc'=>(d c hc').2) g,fun y hy=>eU (fwd_lt (fun c hc'=>(d c hc').1) y hy) g⟩
theorem spec_l4Nexts {TA:Option Addr} {tc:Nat}    {us:List Aut}  (h:zeQ w PA pn AA an ss us)(hok:zdw ss us)(hS:Lst zbg w lo hi SA (szs ss us))(hT:Lst zbg w lo' hi' TA (dec (szs ss us) x))(hn:(szs ss us).length=n)(hl:l<6) :
  Calls Tryz.prog 266 #[.agg #[.slice PA pn pc,.slice AA an ac,sv,L,K,G],.slice SA n sc,.slice TA n tc,l] w (zbI w (pnx (zaW ss us) x l)):=by
 obtain⟨E,U0⟩:∃ x,Hid (w.alloc (.cells #[.slice PA pn pc,.slice AA an ac,sv,L,K,G] 168)=x):=⟨_,za rfl⟩;have ak:Ext w E:=((dB w).alloc _).trans (Ext.eq_ U0.out);have aW:=Ext.bl_ U0.out;have HN:=za (fun W (hW:Ext w W)=>h.ext hW);have HS:=za (fun W (hW:Ext w W)=>hS.ext zbg.ok hW);have HT:=za (fun W (hW:Ext w W)=>hT.ext zbg.ok hW);have aU:=za hok;have bw:n<=5:=by rw [← hn];exact hok.len
 have U:(chs (zaW ss us) x l).length=n:=by rw [zfF,← hn,← zfk,eQ]
 have aS:=za (hok.fwd_ x hl);have ar:=za (show ∀ k,k<n->∃ m,(zaW ss us)[k]?=some m∧(szs ss us)[k]?=some m.1∧(dec (szs ss us) x)[k]?=some (x / zD ((zaW ss us).drop (k+1)) % m.1)∧(chs (zaW ss us) x l)[k]?=some (m.1,m.2 (x / zD ((zaW ss us).drop (k+1)) % m.1) l)∧1<=m.1∧m.1<=16 from fun k hk=>by
  have ab:k<(zaW ss us).length:=by rw [← zfF _ x l,U];exact hk
  have F:(zaW ss us)[k]?=some (zaW ss us)[k]:=dC ab;have hz:(szs ss us)[k]?=some ((zaW ss us)[k]).1:=by rw [← zfk,eL,F];rfl
  refine⟨_,F,hz,?_,chs_get F,hok.le16 _ (eB hz)⟩;rw [zir hz,← zfk,← List.map_drop];rfl)
 have aq:=za (fwd_pnx (zaW ss us) x l);have aR:=za (fun (m:Mem) (F:m∈zaW ss us) (q l:Nat) (hq:q<m.1) (hl:l<6)=>hok.choices F hq hl);clear h hS hT hok;generalize hK:chs (zaW ss us) x l=KK at *;have au:=za U;have bj:=za hn;clear hK U hn
 go_enter Tryz.func266,Tryz.ntmps266
 go_upto_region 1 with fail
 rw [U0.out] at *;go_upto_region 2 with fail
 have aK:=(dB E).alloc (.cells #[(0:Int)] 3);have aH:w.heap.size<=E.heap.size:=ak.size;have aO:=World.ownsRow_lit (base:=E.heap.size) (e:=3) (size:=1) E #[(0:Int)] 1 (eA _) lM rfl;generalize hg1:(some ⟨E.heap.size,0,none⟩:Option Addr)=A1 at *;clear hg1;generalize E.alloc _=w2 at *;go_wp2_with fail
 go_loopw [9,10,11,12,13,14] (fun v i _ _ _ _ wr=>∃ (k:Nat) (c:List Nat),i=.int .i64 k∧k<=n∧Hid (c=fwd (KK.take k))∧wr.ownsRow E.heap.size 3 1 v c.length (zU c)∧Ext E wr) (fun _ i _ _ _ _ _=>n - (intOf i).toNat)
 case atStart=>exact⟨0,[0],rfl,eD _,rfl,by simpa [zU] using aO,aK⟩
 case round =>
  clear aO aK;obtain⟨k,c,rfl,hk,B,J,hx⟩:=hrel;obtain⟨A0,c0,rfl⟩:=zi J
  by_cases hlt:k<n
  ·obtain⟨m,F,hz,hd,hc,aB,S⟩:=ar.out k hlt;have Hm:=za F;have Hc:=za hc;obtain⟨aZ,af⟩:=aS.out k;rw [← B.out] at aZ af;have aT:=za af;obtain⟨q,hq⟩:∃ q:Nat,Hid (x / zD ((zaW ss us).drop (k+1)) % m.1=q):=⟨_,rfl⟩;have ah:q<m.1:=by rw [← hq.out];exact Nat.mod_lt _ aB
   obtain⟨O,Q⟩:=aR.out m (eB F) q l ah hl;have u:=za O;rw [hq.out] at hd;have T:=za (show KK[k]?=some (m.1,m.2 q l) by rw [Hc.out,hq.out]);obtain⟨s,aG⟩:∃ s:Nat,Hid (m.1=s):=⟨_,rfl⟩;obtain⟨p,V⟩:∃ p:List Nat,Hid (m.2 q l=p):=⟨_,rfl⟩;have ab:k<(dec (szs ss us) x).length:=(List.getElem?_eq_some_iff.1 hd).1;have al:=ak.trans hx;obtain⟨bt,ot,q',rfl,_,_,H,az⟩:=(HT.out wr al).num ab;obtain rfl:q=q':=by have:=H.out;rw [hd] at this;exact Option.some.inj this
   obtain⟨bz,oz,z',rfl,_,_,aN,Y⟩:=(HS.out wr al).num (List.getElem?_eq_some_iff.1 hz).1;obtain rfl:m.1=z':=by have:=aN.out;rw [hz] at this;exact Option.some.inj this
   have av:=za ah;rw [aG.out] at Y aB S Q;rw [V.out] at Q u;rw [aG.out] at u T;rw [V.out] at T;have aj:=za (show fwd (KK.take (k+1))=c.flatMap fun o=>p.map fun y=>o*s+y by
    rw [eH,T.out,e7,zix,← B.out])
   have CT:∀ W,Ext wr W->W.cell? ⟨bt,ot+k,none⟩=some (.int .i64 (q:Nat)):=fun W hW=>hW.aa az;have CB:∀ W,Ext wr W->∀ j,W.cell? ⟨w.heap.size,j,none⟩=#[Value.slice PA pn pc,.slice AA an ac,sv,.int .i64 L,.int .i64 K,.int .i64 G][j]?:=fun W hW=>((aW.ext hx).ext hW).cell;have CC:=za (show ∀ W,Ext wr W->Calls Tryz.prog 283 #[.agg #[.slice PA pn pc,.slice AA an ac,sv,L,K,G],k,q,l] W (zbI W p) from fun W hW=>by
    have:=zhB (pc:=pc) (ac:=ac) (sv:=sv) (L:=L) (K:=K) (G:=G) (HN.out W (al.trans hW)) aU.out Hm.out av.out hl;rw [V.out] at this;exact this)
   have bu:(k:Int)<(n:Int):=oM;have ai:=dB wr;clear az aN H hz hd hc F ah O af av;go_upto_region 5 with fail
   refine uR (fun X=>Ext wr X) [7] (zu.of [0,1,2,3,4,5,6,7,8]) ?_;refine uQ ?_;refine zb fun K hK=>?_;go_simp;refine (CC.out _ ai.drew).mono ?_;rintro e r ⟨A4,c4,rfl,C,aL⟩;refine hK.out _ _ ?_;refine pT ?_;refine uQ ?_;refine zf ?_;have I:Ext wr r:=ai.drew.trans aL;have aw:=Lst.ah C;have ay:=(Lst.ah J).ext zbg.ok I;have R:=I.aa Y;clear CT CB CC ai C aL Y;go_upto_region 7 with fail
   have d:=(dB r).alloc (.cells #[] 3);have f:=World.ownsRow_lit (base:=r.heap.size) (e:=3) (size:=1) r #[] 0 (eA _) lM rfl;generalize hg1:(some ⟨r.heap.size,0,none⟩:Option Addr)=A5 at *;clear hg1;generalize r.alloc _=w5 at *;have M:=za (fun W (hW:Ext r W)=>ay.ext zbg.ok hW);have ax:=za (fun W (hW:Ext r W)=>aw.ext zbg.ok hW);have aV:=za (fun W (hW:Ext r W)=>hW.aa R);clear ay aw R;go_wp2_with fail
   go_loopw [12,13,14] (fun v i _ wr=>∃ (a:Nat) (t:List Nat),i=.int .i64 a∧a<=c.length∧Hid (t=(c.take a).flatMap fun o=>p.map fun y=>o*s+y)∧wr.ownsRow r.heap.size 3 1 v t.length (zU t)∧Ext r wr) (fun _ i _ _=>c.length - (intOf i).toNat)
   case atStart=>exact⟨0,[],rfl,eD _,by simp [Hid],by simpa [zU] using f,d⟩
   case round =>
    clear f d;obtain⟨a,t,rfl,ha,ae,f,d⟩:=hrel
    by_cases hla:a<c.length
    ·obtain⟨bo,oo,o,rfl,_,_,ho,aX⟩:=(M.out _ d).num hla;have ba:=aT.out o (eB ho.out);have bx:t.length<=16777216:=by
      rw [ae.out];refine eJ (flat_len (k:=p.length) fun z _=>sM) ?_;rw [fH];have:=fX (show min a c.length<=1048576 by omega) (show p.length<=16 by omega);omega
     have a0:=za (show ((c.take (a+1)).flatMap fun o=>p.map fun y=>o*s+y)=t++p.map fun y=>o*s+y by
      rw [eH,ho.out,ae.out];simp)
     clear aX;go_wp2_with fail
     go_loopw [12,14] (fun v i wr=>∃ (b:Nat) (D:List Nat),i=.int .i64 b∧b<=p.length∧Hid (D=t++(p.take b).map fun y=>o*s+y)∧wr.ownsRow r.heap.size 3 1 v D.length (zU D)∧Ext r wr) (fun _ i _=>p.length - (intOf i).toNat)
     case atStart=>exact⟨0,t,rfl,eD _,by simp [Hid],f,d⟩
     case round =>
      clear f d;obtain⟨b,D,rfl,hb,ad,f,d⟩:=hrel
      by_cases hlb:b<p.length
      ·obtain⟨bc,oc,y,rfl,_,_,hy,aA⟩:=(ax.out _ d).num hlb;have be:=u.out y (eB hy.out);have a9:D.length<=16777216+16:=by rw [ad.out,eO,eQ,fH];omega
       have aC:o*s<=1048576*16:=fX oM S;obtain⟨os,ag⟩:∃ z:Nat,Hid (o*s=z):=⟨_,rfl⟩;have bb:(o:Int)*(s:Int)=(os:Int):=by rw [← ag.out];exact (gK o s).symm
       rw [ag.out] at aC;have aF:=za (show (t++(p.take (b+1)).map fun y=>o*s+y)=D++[os+y] by
        rw [eH,hy.out,ad.out,← ag.out];simp)
       have C1:∀ W,Ext wr W->W.cell? ⟨bo,oo+a,none⟩=some (.int .i64 (o:Nat)):=fun W hW=>(M.out W (d.trans hW)).num2 ho.out;have C2:=fun W (hW:Ext wr W)=>aV.out W (d.trans hW);have C3:∀ W,Ext wr W->W.cell? ⟨bc,oc+b,none⟩=some (.int .i64 (y:Nat)):=fun W hW=>hW.aa aA;have br:(a:Int)<(c.length:Int):=oM;have bs:(b:Int)<(p.length:Int):=oM;have aI:=dB wr;clear aA;go_upto_region 13 with fail
       refine uR (fun X=>Ext wr X) [15,16] (zu.of [0,1,2,3,4,5,6,7,8,9,10,11,12,13,14,15,16,17]) ?_;refine uQ ?_;refine ze fun K hK=>?_;go_simp;refine hK.out _ _ (aI.drew.alloc _) ?_;refine pT ?_;refine zb fun K hK=>?_;refine zbT r wr.drew _ _ _ rfl 3 _ 1 8 Tryz.underlying128 zai rfl dM u12 D.length (zU D) _ _ rfl rfl (d.drew).size f rfl (zaY _) lM oM ?_;intro g5 cap5 w6 g hg6 hat6 hlt6;have a1:IntKind.i64.wrap (IntKind.i64.wrap (os:Int)+(y:Int))=((os+y:Nat):Int):=by rw [zgm os oM,← Int.natCast_add,zgm (os+y) oM]
       rw [a1] at g;refine hK.out _ _ ?_;refine pT ?_;refine uQ ?_;refine zf ?_;have am:Ext r w6:=d.drew.grown hg6 (fun q' H=>(f.lt q' H).1);go_wp2_with fail
       go_roundw
       case rel=>exact⟨b+1,D++[os+y],gM,oM,by unfold Hid;rw [aF.out],by rw [eO,zdU];exact g,am⟩
       case measure=>simp [intOf];omega
      ·obtain rfl:b=p.length:=oM;have Z:=za (show D=t++p.map fun y=>o*s+y by rw [ad.out,fI]);go_wp2_with fail
       go_roundw
       case rel=>exact⟨a+1,D,gM,oM,by unfold Hid;rw [a0.out,Z.out],f,d⟩
       case measure=>simp [intOf];omega
    ·obtain rfl:a=c.length:=oM;have aa:=za (show t=fwd (KK.take (k+1)) by rw [aj.out,ae.out,fI]);have am:=hx.trans (I.trans d);have g:=zr f (show E.heap.size<=r.heap.size from (hx.trans I).size);go_wp2_with fail
     go_roundw
     case rel=>exact⟨k+1,t,gM,oM,aa,g,am⟩
     case measure=>simp [intOf];omega
  ·obtain rfl:n=k:=oM;have a3:=za (show c=pnx (zaW ss us) x l by rw [B.out,eE (oH au.out)];exact aq.out);have aE:=za (show zbI w (pnx (zaW ss us) x l) (.returned (.slice A0 c.length c0)) wr from by
    rw [← a3.out];exact⟨A0,c0,rfl,zr J aH,ak.trans hx⟩)
   clear J;go_wp2;go_ret;exact aE.out
end Go.Proofs.YtcfchopfijalpaaGreatDoor
