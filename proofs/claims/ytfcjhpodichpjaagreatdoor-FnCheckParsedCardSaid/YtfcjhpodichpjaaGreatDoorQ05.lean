/- Plain: a sea -/
import Derived.Test.YtfcjhpodichpjaaGreatDoorQ03
import Derived.Shelf.RegionOpenPlain
import Derived.Deep.LoopGhost
import Derived.Sort.WalkB12
import Derived.Lib.SlicesMore
set_option maxHeartbeats 2000000
set_option maxRecDepth 100000
namespace Go.Proofs.YtfcjhpodichpjaaGreatDoor
open Go Go.RowKit
open Blk renaming new->dT
open Bool renaming and_eq_true->dF,false_eq_true->eX,or_eq_true->gZ
open Ext renaming refl->cW
open Frm renaming setCell->dE
open List renaming all_eq_true->eG,cons_append->fH,drop_eq_getElem_cons->fL,drop_of_length_le->fU,eq_nil_of_length_eq_zero->dU,flatMap_cons->gE,foldl_cons->iO,getD_eq_getElem?_getD->dI,getElem?_append_left->dK,getElem?_append_right->dP,getElem?_eq_getElem->dC,getElem?_eq_none->dZ,getElem?_map->dQ,getElem?_of_mem->dX,getElem_mem->fO,length_append->dL,length_cons->eI,length_map->dO,length_singleton->eA,map_append->eP,map_cons->eQ,map_nil->jG,mem_append->gR,mem_of_getElem?->cX,mem_singleton->e8,replicate->dN,take_add_one->dH,take_length->eC,take_of_length_le->dG
open Nat renaming add_assoc->gD,add_mul->iE,add_sub_cancel->fM,div_div_eq_div_mul->iL,div_le_self->gS,le_refl->cY,le_trans->dJ,lt_of_lt_of_le->eH,lt_or_ge->eT,lt_trichotomy->eN,mul_assoc->iP,mul_comm->iG,mul_le_mul->eK,mul_le_mul_right->iH,pow_le_pow_right->dV,sub_self->eW,zero_add->dS,zero_le->dD
open Option renaming getD_some->fW,toList_some->eD
open Reads renaming af->dY
variable {A AA B PA:Option Addr} {D G N ac an b base c cap d g hi hi' i j k kg l lo lo' m n o off pc pn q x:Nat} {K:Int} {L bs fr ns st sz xs:List Nat} {S:List Bool} {T:Nat->Prop} {W W' W1 w w' w0:World} {a:Aut} {capg:Array Value} {e t:TypeId} {r sv v:Value} {rows:List Value} {s:Sys} {ss:List Sys}
def zcr (w:List Nat):Nat:=w.foldl (fun v l=>v*7+(l+1)) 0
theorem zaE (w:List Nat) (l:Nat):zcr (w++[l])=zcr w*7+(l+1):=by simp [zcr]
theorem zfn:zcr []=0:=rfl
theorem zba {α:Type} (w:List α):w=[]∨∃ u l,w=u++[l]:=by
 rcases List.eq_nil_or_concat w with h|⟨u,l,h⟩
 ·exact Or.inl h
 ·exact Or.inr ⟨u,l,by simpa using h⟩
theorem wval_inj:∀ (n:Nat) (u v:List Nat),u.length<=n->(∀ l∈u,l<6)->(∀ l∈v,l<6)->zcr u=zcr v->u=v:=by
 intro n
 induction n with
 |zero =>
  intro u v hu _ _ h;obtain rfl:u=[]:=dU oM;rcases zba v with rfl|⟨v,m,rfl⟩
  ·rfl
  ·rw [zaE,zfn] at h;omega
 |succ n ih =>
  intro u v hu h1 h2 h;rcases zba u with rfl|⟨u,l,rfl⟩
  ·rcases zba v with rfl|⟨v,m,rfl⟩
   ·rfl
   ·rw [zaE,zfn] at h;omega
  ·rcases zba v with rfl|⟨v,m,rfl⟩
   ·rw [zaE,zfn] at h;omega
   ·have c:=h1 l sM;have d:=h2 m sM;rw [zaE,zaE] at h;have a:l=m:=oM;have b:zcr u=zcr v:=oM;simp only [dL,eA] at hu;rw [a,ih u v oM (fun x hx=>h1 x (by simp [hx])) (fun x hx=>h2 x (by simp [hx])) b]
inductive zcW (d:Nat->Nat->List Nat) (start:List Nat):List Nat->Nat->Prop where
 |nil {x:Nat} (h:x∈start):zcW d start [] x
 |snoc {w:List Nat} {l n x:Nat} (h:zcW d start w n) (hx:x∈d n l):zcW d start (w++[l]) x
theorem zcW.inv {d:Nat->Nat->List Nat} {start w:List Nat} (h:zcW d start (w++[l]) x):∃ n,zcW d start w n∧x∈d n l:=by
 generalize hv:w++[l]=v at h;cases h with
 |nil _=>simp at hv
 |@snoc w' l' n _ h hx =>
  have:=List.append_inj' hv rfl;obtain⟨rfl,a⟩:=this;simp at a;subst a;exact⟨n,h,hx⟩
theorem zcW.aj {d:Nat->Nat->List Nat} {start:List Nat} (h:zcW d start [] x):x∈start:=by
 generalize hv:([]:List Nat)=v at h;cases h with
 |nil h=>exact h
 |snoc _ _=>simp at hv
def visN (st:List Bool × List Nat) (n:Nat):List Bool × List Nat:=if st.1.getD n true then st else (st.1.set n true,st.2++[n])
def vis (S:List Bool) (ns:List Nat):List Bool × List Nat:=ns.foldl visN (S,[])
theorem vis_snoc (S:List Bool) (ns:List Nat) (n:Nat):vis S (ns++[n])=visN (vis S ns) n:=by simp [vis]
theorem zgu (S:List Bool) (ns:List Nat)(hn:∀ n∈ns,n<S.length) :
  (vis S ns).1.length=S.length∧(∀ x,x<S.length->((vis S ns).1.getD x true=true↔S.getD x true=true∨x∈ns))∧(∀ x,x∈(vis S ns).2↔x∈ns∧S.getD x true=false):=by
 have l:∀ k,k<=ns.length->(vis S (ns.take k)).1.length=S.length∧(∀ x,x<S.length->((vis S (ns.take k)).1.getD x true=true↔S.getD x true=true∨x∈ns.take k))∧(∀ x,x∈(vis S (ns.take k)).2↔x∈ns.take k∧S.getD x true=false):=by
  intro k
  induction k with
  |zero=>intro _;exact⟨rfl,fun x _=>by simp [vis],fun x=>by simp [vis]⟩
  |succ k ih =>
   intro hk;obtain⟨i,d,f⟩:=ih oM;have g:ns[k]?=some ns[k]:=dC oM;have c:=hn ns[k] (fO _);rw [dH,g];simp only [eD];generalize ns[k]=n at *;rw [vis_snoc];generalize vis S (ns.take k)=o at *;obtain⟨T,p⟩:=o;simp only at i d f;unfold visN;simp only;cases hT:T.getD n true
   ·have a:=d n c;rw [hT] at a;have j:S.getD n true=false:=by cases h:S.getD n true<;>simp_all
    have m:n∉ns.take k:=fun h=>by simp [h] at a
    refine⟨by simp [i],fun x g=>?_,fun x=>?_⟩
    ·simp only [eX,if_false,dI,gR,e8]
     by_cases e:x=n
     ·subst e;rw [List.getElem?_set_self oM];simp
     ·rw [List.getElem?_set_ne oM];have:=d x g;rw [dI,dI] at this;simp only [e,or_false];exact this
    ·simp only [eX,if_false,gR,e8];constructor
     ·rintro (h|rfl)
      ·exact⟨Or.inl ((f x).1 h).1,((f x).1 h).2⟩
      ·exact⟨Or.inr rfl,j⟩
     ·rintro ⟨h|rfl,b⟩
      ·exact Or.inl ((f x).2 ⟨h,b⟩)
      ·exact Or.inr rfl
   ·refine⟨i,fun x g=>?_,fun x=>?_⟩
    ·simp only [if_true,gR,e8];rw [d x g];have a:=(d n c).1 hT;constructor
     ·rintro (h|h)
      ·exact Or.inl h
      ·exact Or.inr (Or.inl h)
     ·rintro (h|h|rfl)
      ·exact Or.inl h
      ·exact Or.inr h
      ·exact a
    ·simp only [if_true,gR,e8];rw [f x];have a:=(d n c).1 hT;constructor
     ·rintro ⟨h,b⟩;exact⟨Or.inl h,b⟩
     ·rintro ⟨h|rfl,b⟩
      ·exact⟨h,b⟩
      ·rcases a with h|h
       ·rw [h] at b;cases b
       ·exact⟨h,b⟩
 have:=l ns.length (cY _);rwa [eC] at this
structure Stp where
 parent:Int
 letter:Nat
 nodes:List Nat
structure Bfs (d:Nat->Nat->List Nat) (start:List Nat) (goal:Nat->Bool) (L:List Nat) (N:Nat) (S:List Bool) (st:List Stp) (ws:List (List Nat)) (i j:Nat):Prop where
 len:S.length=N
 wl:ws.length=st.length
 small:∀ (k:Nat) (p:Stp),st[k]?=some p->∀ x∈p.nodes,x<N
 some_:∀ (k:Nat) (p:Stp),st[k]?=some p->p.nodes≠[]
 word:∀ (k:Nat) (p:Stp),st[k]?=some p->(k=0∧p.parent = -1∧ws.getD k []=[])∨(∃ a b:Nat,p.parent=(a:Int)∧a<k∧(a<i∨a=i∧b<j)∧L[b]?=some p.letter∧ws.getD k []=ws.getD a []++[p.letter])
 goes:∀ (k:Nat) (p:Stp),st[k]?=some p->∀ x∈p.nodes,zcW d start (ws.getD k []) x
 incr:∀ a b:Nat,a<b->b<st.length->zcr (ws.getD a [])<zcr (ws.getD b [])
 seen:∀ x,x<N->(S.getD x true=true↔∃ (k:Nat) (p:Stp),st[k]?=some p∧x∈p.nodes)
 first:∀ x∈start,∃ (p:Stp),st[0]?=some p∧x∈p.nodes
 zero:∀ p,st[0]?=some p->ws.getD 0 []=[]
 proc:∀ (k:Nat) (p:Stp) (b l:Nat),st[k]?=some p->L[b]?=some l->(k<i∨k=i∧b<j)->∀ n∈p.nodes,∀ x∈d n l,∃ (k':Nat) (q:Stp),st[k']?=some q∧x∈q.nodes∧zcr (ws.getD k' [])<=zcr (ws.getD k []++[l])
 dull:∀ (k:Nat) (p:Stp),st[k]?=some p->∀ x∈p.nodes,goal x=false
section
variable {d:Nat->Nat->List Nat} {start:List Nat} {goal:Nat->Bool} {L:List Nat} {N:Nat} {S:List Bool} {st:List Stp} {ws:List (List Nat)} {i j:Nat}
def Rise (L:List Nat):Prop:=(∀ l∈L,l<6)∧∀ (a b x y:Nat),L[a]?=some x->L[b]?=some y->a<b->x<y
theorem Bfs.before (h:Bfs d start goal L N S st ws i j) {V:Nat}(hV:∀ (k:Nat) (p:Stp) (b l:Nat),st[k]?=some p->L[b]?=some l->zcr (ws.getD k []++[l])<V->(k<i∨k=i∧b<j)) :
  ∀ (m:Nat) (v:List Nat),v.length<=m->(∀ l∈v,l∈L)->zcr v<V->∀ x,zcW d start v x->∃ (k:Nat) (p:Stp),st[k]?=some p∧x∈p.nodes∧zcr (ws.getD k [])<=zcr v:=by
 intro m
 induction m with
 |zero =>
  intro v hv _ _ x hx;obtain rfl:v=[]:=dU oM;obtain⟨p,a,c⟩:=h.first x hx.aj
  exact⟨0,p,a,c,by rw [h.zero p a];exact cY _⟩
 |succ m ih =>
  intro v hv hl hlt x hx;rcases zba v with rfl|⟨u,l,rfl⟩
  ·obtain⟨p,a,c⟩:=h.first x hx.aj
   exact⟨0,p,a,c,by rw [h.zero p a];exact cY _⟩
  ·obtain⟨n,z,s⟩:=hx.inv;simp only [dL,eA] at hv;have o:=hl l sM;obtain⟨b,y⟩:=dX o;rw [zaE] at hlt;obtain⟨k,p,a,r,D⟩:=ih u oM (fun x hx=>hl x (by simp [hx])) oM n z;have f:zcr (ws.getD k []++[l])<V:=by rw [zaE];omega
   obtain⟨C,q,B,t,g⟩:=h.proc k p b l a y (hV k p b l a y f) n r x s;exact⟨C,q,B,t,by rw [zaE] at g ⊢;omega⟩
theorem Bfs.none (h:Bfs d start goal L N S st ws i j)(hend:st.length<=i) {v:List Nat}(hv:∀ l∈v,l∈L) (hx:zcW d start v x):goal x=false:=by
 by_cases hst:st=[]
 ·subst hst;exfalso;have:∀ (m:Nat) (v:List Nat),v.length<=m->∀ x,¬ zcW d start v x:=by
   intro m
   induction m with
   |zero =>
    intro v hv x hx;obtain rfl:v=[]:=dU oM;obtain⟨p,a,_⟩:=h.first x hx.aj
    simp at a
   |succ m ih =>
    intro v hv x hx;rcases zba v with rfl|⟨u,l,rfl⟩
    ·obtain⟨p,a,_⟩:=h.first x hx.aj
     simp at a
    ·obtain⟨n,f,_⟩:=hx.inv;exact ih u (by simp at hv;omega) n f
  exact this v.length v (cY _) x hx
 ·obtain⟨k,p,a,c,_⟩:=h.before (V:=zcr v+1) (fun k p b l a hb _=>Or.inl (by have:=(List.getElem?_eq_some_iff.1 a).1;omega)) v.length v (cY _) hv oM x hx;exact h.dull k p a x c
theorem Bfs.ahead (h:Bfs d start goal L N S st ws i j)(hL:Rise L) (hi:i<st.length)(hl:L[j]?=some l) (hk:k<st.length):zcr (ws.getD k [])<zcr (ws.getD i []++[l]):=by
 rw [zaE];rcases h.word k _ (dC hk) with ⟨_,_,e⟩|⟨a,b,_,n,c,f,e⟩
 ·rw [e,zfn];omega
 ·rw [e,zaE];have o:=hL.1 _ (cX f);rcases c with g|⟨rfl,m⟩
  ·have:=h.incr a i g hi;omega
  ·have:=hL.2 b j _ _ f hl m;omega
theorem Bfs.taken (h:Bfs d start goal L N S st ws i j)(hL:Rise L) (hi:i<st.length)(hl:L[j]?=some l) (k:Nat) (p:Stp) (b m:Nat)(hp:st[k]?=some p)(hb:L[b]?=some m)(hlt:zcr (ws.getD k []++[m])<zcr (ws.getD i []++[l])):k<i∨k=i∧b<j:=by
 rw [zaE,zaE] at hlt;have f:=(List.getElem?_eq_some_iff.1 hp).1;have g:=hL.1 _ (cX hb);have n:=hL.1 _ (cX hl);rcases eN k i with a|a|a
 ·exact Or.inl a
 ·subst a;refine Or.inr ⟨rfl,?_⟩;rcases eN b j with c|c|c
  ·exact c
  ·subst c;rw [hb] at hl;have:=Option.some.inj hl;omega
  ·have:=hL.2 j b _ _ hl hb c;omega
 ·have:=h.incr i k a f;omega
theorem Bfs.found (h:Bfs d start goal L N S st ws i j)(hL:Rise L) (hi:i<st.length)(hl:L[j]?=some l) {v:List Nat}(hv:∀ x∈v,x∈L)(hlt:zcr v<zcr (ws.getD i []++[l])) (hx:zcW d start v x):goal x=false:=by
 obtain⟨k,p,a,c,_⟩:=h.before (fun k p b m a hb hlt=>h.taken hL hi hl k p b m a hb hlt) v.length v (cY _) hv hlt x hx;exact h.dull k p a x c
theorem Bfs.row (h:Bfs d start goal L N S st ws i j)(hj:L.length<=j):Bfs d start goal L N S st ws (i+1) 0:=
 { h with
  word:=fun k p hp=>by
   rcases h.word k p hp with h1|⟨a,b,h1,h2,h3,h4⟩
   ·exact Or.inl h1
   ·exact Or.inr ⟨a,b,h1,h2,oM,h4⟩
  proc:=fun k p b l hp hb hk=>by
   have hbl:=(List.getElem?_eq_some_iff.1 hb).1
   exact h.proc k p b l hp hb oM }
def addS (st:List Stp) (a:Int) (l:Nat) (fr:List Nat):List Stp:=if fr=[] then st else st++[⟨a,l,fr⟩]
def addW (ws:List (List Nat)) (w:List Nat) (fr:List Nat):List (List Nat):=if fr=[] then ws else ws++[w]
theorem zeU {ws:List (List Nat)}  (w:List Nat)(hk:k<ws.length):(ws++[w]).getD k []=ws.getD k []:=by
 rw [dI,dI,dK hk]
theorem zgE {ws:List (List Nat)} (w:List Nat):(ws++[w]).getD ws.length []=w:=by
 rw [dI,dP (cY _),eW];rfl
theorem Bfs.step (h:Bfs d start goal L N S st ws i j)(hL:Rise L)  {pi:Stp}(hi:st[i]?=some pi)(hl:L[j]?=some l) {rs:List Nat}(hrs:∀ x,x∈rs↔∃ n∈pi.nodes,x∈d n l)(hN:∀ x∈rs,x<N)(hg:∀ x∈(vis S rs).2,goal x=false) :
  Bfs d start goal L N (vis S rs).1 (addS st i l (vis S rs).2) (addW ws (ws.getD i []++[l]) (vis S rs).2) i (j+1):=by
 have M:=(List.getElem?_eq_some_iff.1 hi).1;obtain⟨Y,Z,Q⟩:=zgu S rs (fun n E=>by rw [h.len];exact hN n E);generalize (vis S rs).1=T at *;generalize (vis S rs).2=J at *;have s:=fun k v=>h.ahead hL M hl (k:=k) v
 by_cases hfr:J=[]
 ·subst hfr;rw [addS,if_pos rfl,addW,if_pos rfl];have I:∀ x∈rs,S.getD x true=true:=fun x hx=>by
   cases hS:S.getD x true
   ·have:=(Q x).2 ⟨hx,hS⟩;cases this
   ·rfl
  refine { h with len:=Y.trans h.len,word:=?_,seen:=?_,proc:=?_ }
  ·intro k p c;rcases h.word k p c with f|⟨a,b,f,h2,h3,h4⟩
   ·exact Or.inl f
   ·exact Or.inr ⟨a,b,f,h2,oM,h4⟩
  ·intro x hx;rw [Z x (by rw [h.len];exact hx)];constructor
   ·rintro (f|f)
    ·exact (h.seen x hx).1 f
    ·exact (h.seen x hx).1 (I x f)
   ·intro f;exact Or.inl ((h.seen x hx).2 f)
  ·intro k p b m c hb v n E x hx
   by_cases hkj:k=i∧b=j
   ·obtain⟨rfl,rfl⟩:=hkj;rw [hi] at c;obtain rfl:=Option.some.inj c;rw [hl] at hb;obtain rfl:=Option.some.inj hb;have z:=(hrs x).2 ⟨n,E,hx⟩;obtain⟨F,q,H,y⟩:=(h.seen x (hN x z)).1 (I x z);exact⟨F,q,H,y,Nat.le_of_lt (s F (List.getElem?_eq_some_iff.1 H).1)⟩
   ·exact h.proc k p b m c hb oM n E x hx
 ·rw [addS,if_neg hfr,addW,if_neg hfr];have g:∀ {k:Nat} {p:Stp},(st++[(⟨i,l,J⟩:Stp)])[k]?=some p->(k<st.length∧st[k]?=some p)∨(k=st.length∧p=⟨i,l,J⟩):=by
   intro k p c;rcases eN k st.length with v|v|v
   ·rw [dK v] at c;exact Or.inl ⟨v,c⟩
   ·rw [dP oM,v,eW] at c;exact Or.inr ⟨v,(Option.some.inj c).symm⟩
   ·rw [dZ (by simp;omega)] at c;cases c
  have r:∀ {k:Nat} {p:Stp},st[k]?=some p->(st++[(⟨i,l,J⟩:Stp)])[k]?=some p:=fun {k p} c=>by
   rw [dK (List.getElem?_eq_some_iff.1 c).1];exact c
  have G:(st++[(⟨i,l,J⟩:Stp)])[st.length]?=some ⟨i,l,J⟩:=by rw [dP (cY _),eW];rfl
  have O:=h.wl;have o:∀ k,k<st.length->(ws++[ws.getD i []++[l]]).getD k []=ws.getD k []:=fun k v=>zeU _ oM;have C:(ws++[ws.getD i []++[l]]).getD st.length []=ws.getD i []++[l]:=by rw [← O];exact zgE _
  have u:∀ x∈J,x∈rs∧S.getD x true=false:=fun x hx=>(Q x).1 hx;refine⟨Y.trans h.len,by simp [O],?_,?_,?_,?_,?_,?_,?_,?_,?_,?_⟩
  ·intro k p c x hx;rcases g c with ⟨_,f⟩|⟨_,rfl⟩
   ·exact h.small k p f x hx
   ·exact hN x (u x hx).1
  ·intro k p c;rcases g c with ⟨_,f⟩|⟨_,rfl⟩
   ·exact h.some_ k p f
   ·exact hfr
  ·intro k p c;rcases g c with ⟨B,f⟩|⟨rfl,rfl⟩
   ·rcases h.word k p f with ⟨e0,R,U⟩|⟨a,b,R,U,e3,e4,e5⟩
    ·exact Or.inl ⟨e0,R,by rw [o k B];exact U⟩
    ·exact Or.inr ⟨a,b,R,U,oM,e4,by rw [o k B,o a oM];exact e5⟩
   ·exact Or.inr ⟨i,j,rfl,M,Or.inr ⟨rfl,oM⟩,hl,by rw [C,o i M]⟩
  ·intro k p c x hx;rcases g c with ⟨B,f⟩|⟨rfl,rfl⟩
   ·rw [o k B];exact h.goes k p f x hx
   ·rw [C];obtain⟨n,E,X⟩:=(hrs x).1 (u x hx).1;exact .snoc (h.goes i pi hi n E) X
  ·intro a b hab hb;simp only [dL,eA] at hb
   by_cases hbl:b<st.length
   ·rw [o a oM,o b hbl];exact h.incr a b hab hbl
   ·obtain rfl:b=st.length:=oM;rw [o a hab,C];exact s a hab
  ·intro x hx;rw [Z x (by rw [h.len];exact hx)];constructor
   ·rintro (f|f)
    ·obtain⟨k,p,c,t⟩:=(h.seen x hx).1 f;exact⟨k,p,r c,t⟩
    ·cases hS:S.getD x true
     ·exact⟨_,_,G,(Q x).2 ⟨f,hS⟩⟩
     ·obtain⟨k,p,c,t⟩:=(h.seen x hx).1 hS;exact⟨k,p,r c,t⟩
   ·rintro ⟨k,p,c,t⟩;rcases g c with ⟨_,f⟩|⟨_,rfl⟩
    ·exact Or.inl ((h.seen x hx).2 ⟨k,p,f,t⟩)
    ·exact Or.inr (u x t).1
  ·intro x hx;obtain⟨p,c,t⟩:=h.first x hx
   exact⟨p,r c,t⟩
  ·intro p c;rcases g c with ⟨B,f⟩|⟨B,_⟩
   ·rw [o 0 B];exact h.zero p f
   ·omega
  ·intro k p b m c hb v n E x hx;rcases g c with ⟨B,f⟩|⟨rfl,rfl⟩
   ·rw [o k B]
    by_cases hkj:k=i∧b=j
    ·obtain⟨rfl,rfl⟩:=hkj;rw [hi] at f;obtain rfl:=Option.some.inj f;rw [hl] at hb;obtain rfl:=Option.some.inj hb;have z:=(hrs x).2 ⟨n,E,hx⟩;cases hS:S.getD x true
     ·exact⟨_,_,G,(Q x).2 ⟨z,hS⟩,by rw [C];exact cY _⟩
     ·obtain⟨F,q,H,y⟩:=(h.seen x (hN x z)).1 hS;have D:=(List.getElem?_eq_some_iff.1 H).1;exact⟨F,q,r H,y,by rw [o F D];exact Nat.le_of_lt (s F D)⟩
    ·obtain⟨F,q,H,y,V⟩:=h.proc k p b m f hb oM n E x hx;have D:=(List.getElem?_eq_some_iff.1 H).1;exact⟨F,q,r H,y,by rw [o F D];exact V⟩
   ·omega
  ·intro k p c x hx;rcases g c with ⟨_,f⟩|⟨_,rfl⟩
   ·exact h.dull k p f x hx
   ·exact hg x hx
theorem Bfs.begin_ {d:Nat->Nat->List Nat} {start:List Nat} {goal:Nat->Bool}  (hN:∀ x∈start,x<N)(hg:∀ x∈(vis (dN N false) start).2,goal x=false) :
  Bfs d start goal L N (vis (dN N false) start).1 (addS [] (-1) 0 (vis (dN N false) start).2) (addW [] [] (vis (dN N false) start).2) 0 0:=by
 obtain⟨r,s,t⟩:=zgu (dN N false) start (fun n hn=>by simpa using hN n hn);have o:∀ x,x<N->(dN N false).getD x true=false:=fun x hx=>by simp [dI,hx]
 generalize (vis (dN N false) start).1=T at *;generalize (vis (dN N false) start).2=i at *;have g:∀ x,x∈i↔x∈start:=fun x=>(t x).trans ⟨fun h=>h.1,fun h=>⟨h,o x (hN x h)⟩⟩;have m:∀ x,x<N->(T.getD x true=true↔x∈start):=fun x hx=>by
  rw [s x (by simpa using hx),o x hx];simp
 by_cases he:i=[]
 ·subst he;rw [addS,if_pos rfl,addW,if_pos rfl];have q:∀ x,x∉start:=fun x hx=>by have:=(g x).2 hx;cases this
  refine⟨by simpa using r,rfl,fun k p c=>by simp at c,fun k p c=>by simp at c,fun k p c=>by simp at c,fun k p c=>by simp at c,fun a b _ hb=>by simp at hb,fun x hx=>?_,fun x hx=>absurd hx (q x),fun p c=>by simp at c,fun k p b l c=>by simp at c,fun k p c=>by simp at c⟩;rw [m x hx];exact⟨fun h=>absurd h (q x),fun ⟨k,p,c,_⟩=>by simp at c⟩
 ·rw [addS,if_neg he,addW,if_neg he];have f:∀ {k:Nat} {p:Stp},([]++[(⟨-1,0,i⟩:Stp)])[k]?=some p->k=0∧p=⟨-1,0,i⟩:=by
   intro k p c;cases k with
   |zero=>exact⟨rfl,by simpa using c.symm⟩
   |succ k=>simp at c
  refine⟨by simpa using r,rfl,?_,?_,?_,?_,?_,?_,?_,?_,?_,?_⟩
  ·intro k p c x hx;obtain⟨rfl,rfl⟩:=f c;exact hN x ((g x).1 hx)
  ·intro k p c;obtain⟨rfl,rfl⟩:=f c;exact he
  ·intro k p c;obtain⟨rfl,rfl⟩:=f c;exact Or.inl ⟨rfl,rfl,rfl⟩
  ·intro k p c x hx;obtain⟨rfl,rfl⟩:=f c;exact .nil ((g x).1 hx)
  ·intro a b hab hb;simp at hb;omega
  ·intro x hx;rw [m x hx];constructor
   ·intro h;exact⟨0,_,rfl,(g x).2 h⟩
   ·rintro ⟨k,p,c,j⟩;obtain⟨rfl,rfl⟩:=f c;exact (g x).1 j
  ·intro x hx;exact⟨_,rfl,(g x).2 hx⟩
  ·intro p _;rfl
  ·intro k p b l c _ hk;omega
  ·intro k p c x hx;obtain⟨rfl,rfl⟩:=f c;exact hg x hx
end
theorem visN_cnt (st:List Bool × List Nat) (n:Nat):(visN st n).1.count true+st.2.length=st.1.count true+(visN st n).2.length:=by
 unfold visN;cases h:st.1.getD n true
 ·have b:n<st.1.length:=by
   rcases eT n st.1.length with a|a
   ·exact a
   ·rw [dI,dZ a] at h;cases h
  have c:st.1[n]=false:=by rw [dI,dC b] at h;exact h
  simp only [eX,if_false];rw [List.count_set b,c];simp;omega
 ·simp
theorem foldl_cnt (ns:List Nat) (st:List Bool × List Nat):(ns.foldl visN st).1.count true+st.2.length=st.1.count true+(ns.foldl visN st).2.length:=by
 induction ns generalizing st with
 |nil=>rfl
 |cons n r ih =>
  have a:=ih (visN st n);have b:=visN_cnt st n;rw [iO];omega
theorem vis_cnt (S:List Bool) (ns:List Nat):(vis S ns).1.count true=S.count true+(vis S ns).2.length:=by
 have:=foldl_cnt ns (S,[]);simpa [vis] using this
def Cnt (S:List Bool) (st:List Stp):Prop:=(st.map fun p=>p.nodes.length).sum=S.count true
theorem Cnt.add {st:List Stp}(h:Cnt S st) (a:Int) (l:Nat) (ns:List Nat):Cnt (vis S ns).1 (addS st a l (vis S ns).2):=by
 unfold Cnt at h ⊢;rw [vis_cnt,addS]
 by_cases he:(vis S ns).2=[]
 ·rw [if_pos he,he,h];rfl
 ·rw [if_neg he];simp [h]
theorem Cnt.nil (N:Nat):Cnt (dN N false) []:=by
 unfold Cnt;simp [List.count_replicate]
theorem sum_len {l:List Nat}(h:∀ x∈l,1<=x):l.length<=l.sum:=by
 induction l with
 |nil=>simp
 |cons x r ih =>
  have a:=ih (fun y hy=>h y (by simp [hy]));have b:=h x sM;simp;omega
theorem sum_mem {l:List Nat} (h:x∈l):x<=l.sum:=by
 induction l with
 |nil=>cases h
 |cons y r ih =>
  rcases List.mem_cons.1 h with rfl|h
  ·simp
  ·have:=ih h;simp;omega
theorem Cnt.steps {st:List Stp}(h:Cnt S st)(hs:∀ (k:Nat) (p:Stp),st[k]?=some p->p.nodes≠[]):st.length<=S.length:=by
 unfold Cnt at h;have a:(st.map fun p=>p.nodes.length).length<=(st.map fun p=>p.nodes.length).sum:=sum_len (fun x hx=>by
  obtain⟨p,c,rfl⟩:=List.mem_map.1 hx;obtain⟨k,b⟩:=dX c;have:=hs k p b;have:=List.length_pos_iff.2 this;omega)
 rw [dO,h] at a;exact dJ a List.count_le_length
theorem Cnt.nodes {st:List Stp}(h:Cnt S st)  {p:Stp}(hp:st[k]?=some p):p.nodes.length<=S.length:=by
 unfold Cnt at h;have a:=sum_mem (List.mem_map.2 ⟨p,cX hp,rfl⟩:p.nodes.length∈st.map fun p=>p.nodes.length);rw [h] at a;exact dJ a List.count_le_length
def reach (d:Nat->Nat->List Nat) (l:Nat) (ns:List Nat):List Nat:=(ns.map fun n=>d n l).flatten
theorem zgQ {d:Nat->Nat->List Nat}   :x∈reach d l ns↔∃ n∈ns,x∈d n l:=by
 unfold reach;rw [List.mem_flatten];exact⟨fun ⟨ys,h1,h2⟩=>by obtain⟨n,a,rfl⟩:=List.mem_map.1 h1;exact⟨n,a,h2⟩,fun ⟨n,a,h2⟩=>⟨_,List.mem_map.2 ⟨n,a,rfl⟩,h2⟩⟩
theorem reach_snoc (d:Nat->Nat->List Nat) (l:Nat) (ns:List Nat) (n:Nat):reach d l (ns++[n])=reach d l ns++d n l:=by simp [reach]
theorem reach_take {d:Nat->Nat->List Nat}  (h:ns[k]?=some n):reach d l (ns.take (k+1))=reach d l (ns.take k)++d n l:=by
 rw [dH,h];exact reach_snoc _ _ _ _
theorem reach_len {d:Nat->Nat->List Nat}  (h:∀ n∈ns,(d n l).length<=D):(reach d l ns).length<=ns.length*D:=by
 induction ns with
 |nil=>simp [reach]
 |cons n r ih =>
  have a:=ih (fun x hx=>h x (by simp [hx]));have b:=h n sM;simp only [reach,eQ,List.flatten_cons,dL,eI,iE,Nat.one_mul] at a ⊢;omega
def Found (d:Nat->Nat->List Nat) (start:List Nat) (goal:Nat->Bool) (L:List Nat) (v:List Nat):Prop:=
 (∀ l∈v,l∈L)∧(∃ x,zcW d start v x∧goal x=true)∧∀ u,(∀ l∈u,l∈L)->zcr u<zcr v->∀ x,zcW d start u x->goal x=false
def Lost (d:Nat->Nat->List Nat) (start:List Nat) (goal:Nat->Bool) (L:List Nat):Prop:=∀ v,(∀ l∈v,l∈L)->∀ x,zcW d start v x->goal x=false
def cho (s:Sys) (i l:Nat):List Nat:=if s.al.toNat.testBit l then letters (succ s.edges i l) 32 else [i]
def nx:List Sys->Nat->Nat->List Nat × Nat × Nat
 |[],m,_=>([0],1,m)
 |s :: r,m,l=>((cho s ((nx r m l).2.2 % s.st.toNat) l).flatMap (fun q=>(nx r m l).1.map fun x=>q*(nx r m l).2.1+x),(nx r m l).2.1*s.st.toNat,(nx r m l).2.2 / s.st.toNat)
def Sml (s:Sys):Prop:=1<=s.st∧s.st<=16∧Few s.st.toNat s.edges∧0<=s.al∧s.al<=63
theorem zfb (a k:Nat):(letters a k).Nodup:=List.Pairwise.filter _ List.nodup_range
theorem zW {a:Nat}:x∈letters a k↔x<k∧a.testBit x=true:=by simp [letters,List.mem_filter]
theorem cho_lt (h:Sml s) (hi:i<s.st.toNat):∀ q∈cho s i l,q<s.st.toNat:=by
 intro q hq;unfold cho at hq
 split at hq
 ·have b:=(zW.1 hq).2;rcases eT q s.st.toNat with a|a
  ·exact a
  ·have:=Nat.testBit_lt_two_pow (eH (succ_lt h.2.2.1 i l) (dV oM a));rw [b] at this;cases this
 ·rw [List.mem_singleton.1 hq];exact hi
theorem cho_nodup (s:Sys) (i l:Nat):(cho s i l).Nodup:=by
 unfold cho;split
 ·exact zfb _ _
 ·simp
theorem zgR {l:List Nat}(h:l.Nodup) {p:Nat}(hl:∀ x∈l,x<p):l.length<=p:=by
 have a:l ⊆ List.range p:=fun x hx=>List.mem_range.2 (hl x hx);have:=List.Nodup.length_le_of_subset h a;simpa using this
theorem cho_len (h:Sml s) (hi:i<s.st.toNat):(cho s i l).length<=s.st.toNat:=zgR (cho_nodup s i l) (cho_lt h hi)
theorem flat_nodup {l R:List Nat} {W:Nat}(hl:l.Nodup)(hR:R.Nodup)(hW:∀ x∈R,x<W):(l.flatMap fun q=>R.map fun x=>q*W+x).Nodup:=by
 induction l with
 |nil=>simp
 |cons a r ih =>
  rw [gE];rw [List.nodup_cons] at hl;refine List.nodup_append.2 ⟨?_,ih hl.2,?_⟩
  ·exact List.Pairwise.map _ (fun a b h=>by simpa using h) hR
  ·intro x hx y c hxy;subst hxy;obtain⟨u,m,rfl⟩:=List.mem_map.1 hx;obtain⟨b,j,c⟩:=List.mem_flatMap.1 c;obtain⟨v,n,k⟩:=List.mem_map.1 c;have g:=hW u m;have i:=hW v n;have:a=b:=by
    have d:(a*W+u) / W=a:=by rw [Nat.add_comm,Nat.add_mul_div_right _ _ oM,Nat.div_eq_of_lt g,dS]
    have f:(b*W+v) / W=b:=by rw [Nat.add_comm,Nat.add_mul_div_right _ _ oM,Nat.div_eq_of_lt i,dS]
    rw [← d,← f,k]
   subst this;exact hl.1 j
theorem nx_facts (h:∀ s∈ss,Sml s) (m l:Nat):1<=(nx ss m l).2.1∧(nx ss m l).2.1<=16 ^ ss.length∧(∀ x∈(nx ss m l).1,x<(nx ss m l).2.1)∧(nx ss m l).1.Nodup∧(nx ss m l).2.2<=m:=by
 induction ss with
 |nil=>simp [nx]
 |cons s r ih =>
  obtain⟨g,i,f,j,k⟩:=ih fun s b=>h s (List.mem_cons_of_mem _ b);have b:=h s List.mem_cons_self;have a:1<=s.st.toNat∧s.st.toNat<=16:=by have:=b.1;have:=b.2.1;omega
  refine⟨Nat.mul_pos g a.1,?_,fun x c=>?_,flat_nodup (cho_nodup _ _ _) j f,dJ (gS _ _) k⟩
  ·rw [nx,eI,Nat.pow_succ];exact eK i a.2
  ·rw [nx] at c ⊢;obtain⟨q,n,c⟩:=List.mem_flatMap.1 c;obtain⟨y,o,rfl⟩:=List.mem_map.1 c;have d:=cho_lt b (Nat.mod_lt _ a.1) q n;have p:=f y o
   calc q*(nx r m l).2.1+y<q*(nx r m l).2.1+(nx r m l).2.1:=oM
    _=(q+1)*(nx r m l).2.1:=by rw [iE,Nat.one_mul]
    _<=s.st.toNat*(nx r m l).2.1:=iH _ d
    _=(nx r m l).2.1*s.st.toNat:=iG _ _
theorem nx_len (h:∀ s∈ss,Sml s) (m l:Nat):(nx ss m l).1.length<=16 ^ ss.length:=by
 obtain⟨d,a,b,c,_⟩:=nx_facts h m l;exact dJ (zgR c b) a
def place (a l:Nat):Nat:=(letters a l).length
def aGo (a:Aut) (q l:Nat):Nat:=if a.al.toNat.testBit l then ((a.next.getD q []).getD (place a.al.toNat l) 0).toNat else q
abbrev Mem:=Nat × (Nat->Nat->List Nat)
def zeE (s:Sys):Mem:=(s.st.toNat,cho s)
def zdx (a:Aut):Mem:=(a.next.length,fun q l=>[aGo a q l])
def zay:List Nat->Nat
 |[]=>1
 |m :: r=>m*zay r
def zZ (ms:List Mem):Nat:=zay (ms.map Prod.fst)
theorem zdR (m:Mem) (r:List Mem):zZ (m :: r)=m.1*zZ r:=rfl
theorem zcB (a b:List Nat):zay (a++b)=zay a*zay b:=by
 induction a with
 |nil=>simp [zay]
 |cons x r ih=>rw [fH,zay,zay,ih,iP]
theorem zce (a b:List Mem):zZ (a++b)=zZ a*zZ b:=by
 unfold zZ;rw [eP,zcB]
theorem prodS_pos {l:List Nat}(h:∀ x∈l,1<=x):1<=zay l:=by
 induction l with
 |nil=>simp [zay]
 |cons x r ih=>exact Nat.mul_pos (h x sM) (ih fun y hy=>h y (by simp [hy]))
def dec:List Nat->Nat->List Nat
 |[],_=>[]
 |s :: r,x=>(x / zay r % s) :: dec r x
theorem zcL (l:List Nat) (x:Nat):(dec l x).length=l.length:=by
 induction l with
 |nil=>rfl
 |cons s r ih=>simp [dec,ih]
theorem zik {l:List Nat} {s:Nat}(h:l[k]?=some s):(dec l x)[k]?=some (x / zay (l.drop (k+1)) % s):=by
 induction l generalizing k with
 |nil=>simp at h
 |cons t r ih =>
  cases k with
  |zero=>simp at h;subst h;simp [dec]
  |succ k=>simp at h;simpa [dec] using ih h
def encF (acc:Nat):List Nat->List Nat->Nat
 |s :: r,x :: xs=>encF (acc*s+x) r xs
 |_,_=>acc
def pnx:List Mem->Nat->Nat->List Nat
 |[],_,_=>[0]
 |m :: r,x,l=>(m.2 (x / zZ r % m.1) l).flatMap fun q=>(pnx r x l).map fun y=>q*zZ r+y
def MemOk (m:Mem):Prop:=1<=m.1∧∀ q l,q<m.1->l<6->∀ x∈m.2 q l,x<m.1
theorem prodN_pos {ms:List Mem}(h:∀ m∈ms,MemOk m):1<=zZ ms:=prodS_pos fun x hx=>by
 obtain⟨m,hm,rfl⟩:=List.mem_map.1 hx
 exact (h m hm).1
theorem pnx_lt {ms:List Mem}(h:∀ m∈ms,MemOk m) (hl:l<6):∀ y∈pnx ms x l,y<zZ ms:=by
 induction ms with
 |nil=>intro y a;simp [pnx] at a;subst a;simp [zZ,zay]
 |cons m r ih =>
  intro y a;rw [pnx] at a;obtain⟨q,c,a⟩:=List.mem_flatMap.1 a;obtain⟨z,d,rfl⟩:=List.mem_map.1 a;have b:=(h m sM).2 _ l (Nat.mod_lt _ (h m sM).1) hl q c;have f:=ih (fun m hm=>h m (by simp [hm])) z d;rw [zdR]
  calc q*zZ r+z<q*zZ r+zZ r:=oM
   _=(q+1)*zZ r:=by rw [iE,Nat.one_mul]
   _<=m.1*zZ r:=iH _ b
theorem zfw (a b:List Mem) (x l:Nat):pnx (a++b) x l=(pnx a (x / zZ b) l).flatMap fun q=>(pnx b x l).map fun y=>q*zZ b+y:=by
 induction a with
 |nil=>simp [pnx]
 |cons m r ih =>
  rw [fH,pnx,pnx,ih,zce,List.flatMap_assoc];rw [iL,iG (zZ b) (zZ r)]
  congr 1
  funext q
  rw [List.map_flatMap,List.flatMap_map]
  congr 1
  funext z
  rw [List.map_map]
  congr 1
  funext y
  simp only [Function.comp];rw [iE,iP,gD]
theorem nx_pnx (ss:List Sys) (m l:Nat):nx ss m l=(pnx (ss.map zeE) m l,zZ (ss.map zeE),m / zZ (ss.map zeE)):=by
 induction ss with
 |nil=>simp [nx,pnx,zZ,zay]
 |cons s r ih =>
  rw [nx,ih,eQ,pnx,zdR];simp only [zeE];rw [iL,iG (zZ _) s.st.toNat]
theorem pnx_two (a p:Aut) (x l:Nat):pnx [zdx a,zdx p] x l=[aGo a (x / p.next.length % a.next.length) l*p.next.length+aGo p (x % p.next.length) l]:=by
 simp [pnx,zdx,zZ,zay]
theorem pnx_one (p:Aut) (x l:Nat):pnx [zdx p] x l=[aGo p (x % p.next.length) l]:=by
 simp [pnx,zdx,zZ,zay]
theorem pnx_under (ss:List Sys) (a p:Aut) (x l:Nat) :
  pnx (ss.map zeE++[zdx a,zdx p]) x l=(nx ss (x / p.next.length / a.next.length) l).1.map fun y=>y*a.next.length*p.next.length+(aGo a (x / p.next.length % a.next.length) l*p.next.length+aGo p (x % p.next.length) l):=by
 have b:zZ [zdx a,zdx p]=a.next.length*p.next.length:=by simp [zZ,zay,zdx]
 rw [zfw,pnx_two,nx_pnx,b,iL,iG p.next.length a.next.length];simp only [eQ,jG,← List.map_eq_flatMap,iP]
def free:Aut:=⟨0,[[]],[true]⟩
theorem pnx_free (ss:List Sys) (p:Aut) (x l:Nat):pnx (ss.map zeE++[zdx free,zdx p]) x l=pnx (ss.map zeE++[zdx p]) x l:=by
 have a:∀ q l,aGo free q l=q:=fun q l=>by simp [aGo,free]
 rw [zfw,zfw,pnx_two,pnx_one,a];have b:zZ [zdx free,zdx p]=p.next.length:=by simp [zZ,zay,zdx,free]
 have c:zZ [zdx p]=p.next.length:=by simp [zZ,zay,zdx]
 rw [b,c];have d:free.next.length=1:=rfl;rw [d,Nat.mod_one,Nat.zero_mul,dS]
def fwd (cs:List (Nat × List Nat)):List Nat:=cs.foldl (fun out c=>out.flatMap fun o=>c.2.map fun x=>o*c.1+x) [0]
theorem zin (cs:List (Nat × List Nat)) (c:Nat × List Nat):fwd (cs++[c])=(fwd cs).flatMap fun o=>c.2.map fun x=>o*c.1+x:=by simp [fwd]
def chs:List Mem->Nat->Nat->List (Nat × List Nat)
 |[],_,_=>[]
 |m :: r,x,l=>(m.1,m.2 (x / zZ r % m.1) l) :: chs r x l
theorem zfs (ms:List Mem) (x l:Nat):(chs ms x l).length=ms.length:=by
 induction ms with
 |nil=>rfl
 |cons m r ih=>simp [chs,ih]
theorem chs_get {ms:List Mem}  {m:Mem}(h:ms[k]?=some m):(chs ms x l)[k]?=some (m.1,m.2 (x / zZ (ms.drop (k+1)) % m.1) l):=by
 induction ms generalizing k with
 |nil=>simp at h
 |cons t r ih =>
  cases k with
  |zero=>simp at h;subst h;simp [chs]
  |succ k=>simp at h;simpa [chs] using ih h
theorem foldl_pnx (ms:List Mem) (x l:Nat) (out:List Nat):(chs ms x l).foldl (fun out c=>out.flatMap fun o=>c.2.map fun x=>o*c.1+x) out=out.flatMap fun o=>(pnx ms x l).map fun y=>o*zZ ms+y:=by
 induction ms generalizing out with
 |nil=>simp [chs,pnx,zZ,zay]
 |cons m r ih =>
  rw [chs,iO,ih,pnx,List.flatMap_assoc]
  congr 1
  funext o
  rw [List.flatMap_map,List.map_flatMap]
  congr 1
  funext q
  rw [List.map_map]
  congr 1
  funext y
  simp only [Function.comp,zdR];rw [iE,iP,gD]
theorem fwd_pnx (ms:List Mem) (x l:Nat):fwd (chs ms x l)=pnx ms x l:=by
 have:=foldl_pnx ms x l [0];simpa [fwd] using this
theorem flat_len {α β:Type} {l:List α} {f:α->List β} (h:∀ x∈l,(f x).length<=k):(l.flatMap f).length<=l.length*k:=by
 induction l with
 |nil=>simp
 |cons x r ih =>
  have a:=ih fun y hy=>h y (by simp [hy]);have b:=h x sM;rw [gE,dL,eI,iE,Nat.one_mul];omega
theorem fwd_len {cs:List (Nat × List Nat)}(h:∀ c∈cs,c.2.length<=c.1):(fwd cs).length<=zay (cs.map Prod.fst):=by
 have a:∀ n,n<=cs.length->(fwd (cs.take n)).length<=zay ((cs.take n).map Prod.fst):=by
  intro n
  induction n with
  |zero=>intro _;simp [fwd,zay]
  |succ n ih =>
   intro hn;have b:cs[n]?=some cs[n]:=dC oM;rw [dH,b];simp only [eD];rw [zin,eP,zcB];refine dJ (flat_len (k:=(cs[n]).2.length) fun x _=>sM) ?_;refine eK (ih oM) ?_;simpa [zay] using h cs[n] (fO _)
 have:=a cs.length (cY _);rwa [eC] at this
theorem fwd_lt {cs:List (Nat × List Nat)}(h:∀ c∈cs,∀ x∈c.2,x<c.1):∀ y∈fwd cs,y<zay (cs.map Prod.fst):=by
 have b:∀ n,n<=cs.length->∀ y∈fwd (cs.take n),y<zay ((cs.take n).map Prod.fst):=by
  intro n
  induction n with
  |zero=>intro _ y a;simp [fwd] at a;subst a;simp [zay]
  |succ n ih =>
   intro hn y a;have f:cs[n]?=some cs[n]:=dC oM;rw [dH,f] at a ⊢;simp only [eD] at a ⊢;rw [zin] at a;rw [eP,zcB];obtain⟨o,g,a⟩:=List.mem_flatMap.1 a;obtain⟨x,i,rfl⟩:=List.mem_map.1 a;have d:=ih oM o g;have j:=h cs[n] (fO _) x i;simp only [eQ,jG,zay,Nat.mul_one]
   calc o*(cs[n]).1+x<o*(cs[n]).1+(cs[n]).1:=oM
    _=(o+1)*(cs[n]).1:=by rw [iE,Nat.one_mul]
    _<=_:=iH _ d
 have:=b cs.length (cY _);rwa [eC] at this
theorem zfy (h:Sml s):MemOk (zeE s):=⟨by have:=h.1;simp only [zeE];omega,fun q l hq hl x hx=>cho_lt h hq x hx⟩
theorem zk (h:zh a=true):(0<=a.al∧a.al<=63)∧(1<=a.next.length∧a.next.length<=12)∧a.acc.length=a.next.length∧∀ (q:Nat) (row:List Int),a.next[q]?=some row->row.length=(letters a.al.toNat 6).length∧∀ x∈row,0<=x∧x<a.next.length:=by
 simp only [zh,dF,decide_eq_true_eq,eG] at h;obtain⟨b,c,d,f⟩:=h;refine⟨b,c,d,fun q row hr=>?_⟩;have:=f row (cX hr);simp only [ziE,dF,decide_eq_true_eq,eG] at this;exact this
def Fit (N:Nat) (a:Aut):Prop:=(0<=a.al∧a.al<=63)∧(1<=a.next.length∧a.next.length<=N)∧a.acc.length=a.next.length∧∀ (q:Nat) (row:List Int),a.next[q]?=some row->row.length=(letters a.al.toNat 6).length∧∀ x∈row,0<=x∧x<a.next.length
theorem Fit.row (h:Fit N a):(0<=a.al∧a.al<=63)∧(1<=a.next.length∧a.next.length<=N)∧a.acc.length=a.next.length∧∀ (q:Nat) (row:List Int),a.next[q]?=some row->row.length=(letters a.al.toNat 6).length∧∀ x∈row,0<=x∧x<a.next.length:=h
theorem fit_of (h:zh a=true):Fit 12 a:=zk h
theorem place_lt {a:Nat}(hl:l<6)(hb:a.testBit l=true):place a l<(letters a 6).length:=by
 have b:∀ n,l+1<=n->place a l<(letters a n).length:=by
  intro n
  induction n with
  |zero=>intro h;omega
  |succ n ih =>
   intro h;rw [zbh,dL]
   by_cases e:n=l
   ·subst e;simp [place,hb]
   ·have:=ih oM;omega
 exact b 6 oM
theorem aGo_ltF (h:Fit N a) (hq:q<a.next.length)(hl:l<6):aGo a q l<a.next.length:=by
 obtain⟨_,_,_,g⟩:=h.row;unfold aGo;split
 ·rename_i hb;have b:a.next[q]?=some a.next[q]:=dC hq;obtain⟨d,f⟩:=g q _ b;have c:=place_lt hl hb;rw [← d] at c;have i:=f _ (fO c);simp only [dI,b,fW,dC c];omega
 ·exact hq
theorem zfF (h:zh a=true) (hq:q<a.next.length)(hl:l<6):aGo a q l<a.next.length:=aGo_ltF (fit_of h) hq hl
theorem zcY (h:zh a=true):MemOk (zdx a):=⟨(zk h).2.1.1,fun q l hq hl x hx=>by
 simp only [zdx,e8] at hx ⊢
 subst hx
 exact zfF h hq hl⟩
theorem zhO:zh free=true:=dM
def lst (x:Nat):Nat:=(letters x 32).headD 0
def clsOf (R:List Nat):Nat->List Nat × Nat
 |0=>([],0)
 |k+1=>if lst (R.getD k 0)=k then ((clsOf R k).1++[(clsOf R k).2],(clsOf R k).2+1) else ((clsOf R k).1++[(clsOf R k).1.getD (lst (R.getD k 0)) 0],(clsOf R k).2)
def cl (R:List Nat) (i:Nat):Nat:=(clsOf R (i+1)).1.getD i 0
theorem ltE_trans {a b c:Edg}(h:ltE a b=true)(h':ltE b c=true):ltE a c=true:=by
 unfold ltE at *
 (repeat' split at h)<;>(repeat' split at h')<;>(repeat' split)<;>simp only [decide_eq_true_eq] at*<;> omega
theorem ltE_iff {a b:Edg}:ltE a b=true↔a.fr<b.fr∨a.fr=b.fr∧(a.le<b.le∨a.le=b.le∧a.ta<b.ta):=by
 unfold ltE
 (repeat' split)<;>simp only [decide_eq_true_eq]<;>omega
def Rising (es:List Edg):Prop:=∀ (a b:Nat) (x y:Edg),es[a]?=some x->es[b]?=some y->a<b->ltE x y=true
theorem rising_of {es:List Edg}(h:∀ k x y,es[k]?=some x->es[k+1]?=some y->ltE x y=true):Rising es:=by
 intro a b x y hx hy hab
 induction b generalizing y with
 |zero=>omega
 |succ b ih =>
  have g:=(List.getElem?_eq_some_iff.1 hy).1;obtain⟨z,c⟩:∃ z,es[b]?=some z:=⟨_,dC oM⟩;have d:=h b z y c hy;rcases eT a b with f|f
  ·exact ltE_trans (ih z c f) d
  ·obtain rfl:a=b:=oM;rw [hx] at c;obtain rfl:=Option.some.inj c;exact d
theorem valid_iff :zl s=true↔(0<=s.al∧s.al<=63)∧(1<=s.st∧s.st<=16)∧(∀ e∈s.edges,edgB s.al.toNat s.st e=true)∧Rising s.edges:=by
 simp only [zl,dF,decide_eq_true_eq,eG,List.mem_range];constructor
 ·rintro ⟨f,g,c⟩;refine⟨f,g,fun e he=>?_,rising_of fun k x y d b=>?_⟩
  ·obtain⟨k,a⟩:=dX he;have:=c k (List.getElem?_eq_some_iff.1 a).1;rw [zbE,a] at this;simp only [dF] at this;exact this.1
  ·have:=c (k+1) (List.getElem?_eq_some_iff.1 b).1;unfold zbE at this;rw [b] at this;simp only [fM,d,dF,gZ,decide_eq_true_eq] at this;rcases this.2 with h|h
   ·omega
   ·exact h
 ·rintro ⟨f,g,c,i⟩;refine⟨f,g,fun k a=>?_⟩;have d:s.edges[k]?=some s.edges[k]:=dC a;unfold zbE;rw [d];simp only [dF,gZ,decide_eq_true_eq];refine⟨c _ (fO a),?_⟩;cases k with
  |zero=>exact Or.inl rfl
  |succ k =>
   have b:s.edges[k]?=some s.edges[k]:=dC oM;simp only [fM,b];exact Or.inr (i k (k+1) _ _ b d oM)
def ALAt (w:World) (lo hi:Nat) (A:Option Addr) (n:Nat) (us:List Aut):Prop:=
 n=us.length∧∃ cells,Reads w lo hi 3 A n cells∧∀ (k:Nat) (a:Aut),us[k]?=some a->∃ (B:Option Addr) (m c:Nat) (B':Option Addr) (m' c':Nat),cells[k*3]?=some (.int .i64 a.al)∧cells[k*3+1]?=some (.slice B m c)∧cells[k*3+2]?=some (.slice B' m' c')∧zI w lo hi B m B' m' a
section
variable {w w':World} {lo hi n k:Nat} {A:Option Addr} {us:List Aut}
theorem ALAt.ext (h:ALAt w lo hi A n us)(hb:Ext w w'):ALAt w' lo hi A n us:=by
 obtain⟨e,a,l,o⟩:=h;refine⟨e,a,l.ext hb,fun k s hs=>?_⟩;obtain⟨B,m,c,b,p,d,f,g,i,j⟩:=o k s hs;exact⟨B,m,c,b,p,d,f,g,i,j.ext hb⟩
theorem ALAt.len (h:ALAt w lo hi A n us):n<=9223372036854775807:=by
 obtain⟨_,a,b,_⟩:=h;exact b.len
theorem ALAt.aut (h:ALAt w lo hi A n us)(hk:k<n):∃ b o a B m c B' m' c',A=some ⟨b,o,none⟩∧Hid (us[k]?=some a)∧w.cell? ⟨b,o+k*3,none⟩=some (.int .i64 a.al)∧w.cell? ⟨b,o+k*3+1,none⟩=some (.slice B m c)∧w.cell? ⟨b,o+k*3+2,none⟩=some (.slice B' m' c')∧zI w lo hi B m B' m' a:=by
 obtain⟨e,d,s,j⟩:=h;have f:us[0]?=some (us[0]' oM):=dC _;obtain⟨_,_,_,_,_,_,l,_⟩:=j 0 _ f;rw [Nat.zero_mul] at l;obtain⟨b,o,rfl,u,t,g⟩:=zhV s oM l;have i:us[k]?=some (us[k]' oM):=dC _;obtain⟨B,m,c,B',m',c',f,p,q,r⟩:=j k _ i;exact⟨b,o,_,B,m,c,B',m',c',rfl,i,g _ _ f,by rw [gD];exact g _ _ p,by rw [gD];exact g _ _ q,r⟩
end
structure zeO (w:World) (PA:Option Addr) (pn:Nat) (AA:Option Addr) (an:Nat) (ss:List Sys) (us:List Aut):Prop where
 sys:∃ lo hi,zet w lo hi PA pn ss
 aut:∃ lo hi,ALAt w lo hi AA an us
theorem zeO.ext {us:List Aut}(h:zeO w PA pn AA an ss us)(hx:Ext w w'):zeO w' PA pn AA an ss us:=by
 obtain⟨⟨g,f,c⟩,b,a,d⟩:=h;exact⟨⟨g,f,c.ext hx⟩,b,a,d.ext hx⟩
def zbe (ss:List Sys) (us:List Aut):List Mem:=ss.map zeE++us.map zdx
def szs (ss:List Sys) (us:List Aut):List Nat:=ss.map (fun s=>s.st.toNat)++us.map fun a=>a.next.length
theorem zfd (ss:List Sys) (us:List Aut):(zbe ss us).map Prod.fst=szs ss us:=by
 simp [zbe,szs,zeE,zdx,Function.comp_def]
structure zcX (ss:List Sys) (us:List Aut):Prop where
 sys:∀ s∈ss,zl s=true
 aut:∀ a∈us,zh a=true
 few:ss.length<=3
 few':us.length<=2
theorem zcR (h:zl s=true):Sml s:=by
 obtain⟨a,b,f,g⟩:=valid_iff.1 h;obtain⟨p,d,_,_,c⟩:=zcf h;refine⟨b.1,b.2,?_,a.1,a.2⟩;rw [d];exact c
theorem zcX.ok {us:List Aut}(h:zcX ss us):∀ m∈zbe ss us,MemOk m:=by
 intro m hm;rcases List.mem_append.1 hm with b|b
 ·obtain⟨s,d,rfl⟩:=List.mem_map.1 b;exact zfy (zcR (h.sys s d))
 ·obtain⟨a,c,rfl⟩:=List.mem_map.1 b;exact zcY (h.aut a c)
theorem prodS_le {l:List Nat} (h:∀ x∈l,x<=b):zay l<=b ^ l.length:=by
 induction l with
 |nil=>simp [zay]
 |cons x r ih =>
  rw [zay,eI,Nat.pow_succ,iG];exact eK (ih fun y hy=>h y (by simp [hy])) (h x sM)
theorem zcX.le16 {us:List Aut}(h:zcX ss us):∀ x∈szs ss us,1<=x∧x<=16:=by
 intro x hx;rcases List.mem_append.1 hx with b|b
 ·obtain⟨s,f,rfl⟩:=List.mem_map.1 b;have c:=zcR (h.sys s f);have:=c.1;have:=c.2.1;omega
 ·obtain⟨a,d,rfl⟩:=List.mem_map.1 b;have:=(zk (h.aut a d)).2.1;omega
theorem zcX.len {us:List Aut}(h:zcX ss us):(szs ss us).length<=5:=by
 have:=h.few;have:=h.few';simp [szs];omega
theorem zcX.total {us:List Aut}(h:zcX ss us) (l:List Nat)(hl:l.Sublist (szs ss us)):1<=zay l∧zay l<=1048576:=by
 refine⟨prodS_pos fun x hx=>(h.le16 x (hl.subset hx)).1,?_⟩;have a:=prodS_le (l:=l) (b:=16) fun x hx=>(h.le16 x (hl.subset hx)).2;have c:=hl.length_le;have d:=h.len
 calc zay l<=16 ^ l.length:=a
  _<=16 ^ 5:=dV oM oM
  _=1048576:=dM
theorem place_succ (a k:Nat):place a (k+1)=place a k+if a.testBit k then 1 else 0:=by
 unfold place;rw [zbh,dL];cases a.testBit k<;>simp
theorem spec_l1Place (a l:Nat)(ha:Sm a)(hl:l<=6) (w:World) :
  Calls Tryz.prog 205 #[a,l] w fun e w'=>e=.returned (.int .i64 (place a l:Nat))∧w=w':=by
 go_enter Tryz.func205,Tryz.ntmps205
 go_wp2
 go_loop [5,6] (fun v i=>∃ k y:Nat,k<=l∧i=.int .i64 k∧v=.int .i64 y∧y<=k∧Hid (y=place a k)) (fun _ i=>l - (intOf i).toNat)
 case atStart=>exact⟨0,0,dD _,rfl,rfl,cY _,rfl⟩
 case round =>
  obtain⟨k,y,f,rfl,rfl,g,b⟩:=hrel
  by_cases hlt:k<l
  ·cases hb:a.testBit k
   all_goals
    have c:=za hb;have d:=za (place_succ a k);clear hb;go_wp2_with (go_at_call 112;refine (zao a k ha _ oM).mono ?_;rw [c.out];rintro e w' ⟨rfl,rfl⟩)
    go_round
    case rel=>first|exact⟨k+1,y,oM,gM,rfl,oM,by unfold Hid;rw [d.out,c.out,← b.out];rfl⟩|exact⟨k+1,y+1,oM,gM,gM,oM,by unfold Hid;rw [d.out,c.out,← b.out];rfl⟩
    case measure=>simp [intOf];omega
  ·obtain rfl:l=k:=oM;go_wp2;go_ret;exact⟨zD (by rw [b.out]),rfl⟩
theorem zcU {B':Option Addr} {m' d':Nat}   (h:zI w lo hi B m B' m' a)(hv:zh a=true)(hq:q<a.next.length)(hl:l<6) :
  Calls Tryz.prog 172 #[.agg #[a.al,.slice B m d,.slice B' m' d'],q,l] w fun e w'=>e=.returned (.int .i64 (aGo a q l:Nat))∧Ext w w':=by
 obtain⟨⟨s,t⟩,_,_,f⟩:=zk hv;obtain⟨al,g⟩:∃ al:Nat,Hid (a.al=al):=⟨a.al.toNat,by unfold Hid;omega⟩;have n:Sm al:=by have:=g.out;unfold Sm;omega
 have o:a.al.toNat=al:=oH g.out;have Hn:=za h.n1;have V:=za (fun W (hW:Ext w W)=>h.1.ext hW);have O:q<m:=by rw [h.n1];exact hq
 have S:=za (show aGo a q l=if al.testBit l then ((a.next.getD q []).getD (place al l) 0).toNat else q by unfold aGo;rw [o]);have c:a.next[q]?=some a.next[q]:=dC hq;obtain⟨k,C⟩:=f q _ c;rw [o] at k;have i:=za c;have H:=za C;have G:=za k;have aa:=h.1.len;clear k C c o f h;generalize a.next[q]=row at *;cases hb:al.testBit l
 ·have r:=za hb;clear hb;rw [g.out];clear s t
  go_enter Tryz.func172,Tryz.ntmps172
  go_wp2_with (go_at_call 112;refine (zao al l n _ oM).mono ?_;rw [r.out];rintro e w' ⟨rfl,rfl⟩)
  go_ret;exact⟨zD (by rw [S.out,r.out];rfl),(cW _).alloc _⟩
 ·have hp:=za (place_lt hl hb);have r:=za hb;clear hb;rw [g.out];clear s t;have v:place al l<row.length:=by rw [G.out];exact hp.out
  obtain⟨x,Q⟩:∃ x,Hid (row[place al l]?=some x):=⟨_,dC v⟩;obtain⟨x0,x1⟩:=H.out x (cX Q.out);obtain⟨y,rfl⟩:∃ y:Nat,x=y:=⟨x.toNat,oM⟩;have R:=za (show aGo a q l=y by rw [S.out,r.out,if_pos rfl];simp only [dI,i.out,fW,Q.out];rfl)
  go_enter Tryz.func172,Tryz.ntmps172
  go_wp2_with (go_at_call 112;refine (zao al l n _ oM).mono ?_;rw [r.out];rintro e w' ⟨rfl,rfl⟩)
  generalize U0:w.alloc _=p at *;obtain⟨E,J⟩:=Ext.x1_ U0;clear U0;obtain⟨X,U,Z,l',rfl,_,_,M,T,D⟩:=(V.out p E).row O;obtain rfl:row=l':=by have I:=i.out;have u:=M.out;rw [I] at u;exact Option.some.inj u
  have j:∀ W,Ext p W->∃ b,U=some b∧W.cell? (b.add (place al l))=some (.int .i64 (y:Nat)):=fun W hW=>by
   obtain⟨b,z,e,_,_,hz,L⟩:=(D.ext hW).int v;have I:=Q.out;have u:=hz.out;rw [I] at u;obtain rfl:=Option.some.inj u;exact⟨b,e,L⟩
  obtain⟨b,rfl,_⟩:=j p (cW _);have c2:∀ W,Ext p W->W.cell? (b.add (place al l))=some (.int .i64 (y:Nat)):=fun W hW=>by
   obtain⟨Y,e,h⟩:=j W hW;injection e with e
   subst e;exact h
  have c1:∀ W,Ext p W->W.cell? (X.add q)=some (.slice (some b) row.length Z):=fun W hW=>hW.aa T;have c0:=J.cells;clear j T D;have ae:(place al l:Int)<(row.length:Int):=oM;have af:=cW p;generalize hpp:place al l=pl at *;have F:=za hpp;clear hpp;go_wp2_with fail
  go_region_held3 (fun W=>Ext p W) (first|assumption|(refine Ext.drew ?_;assumption)|(refine Ext.trans ?_ aM;assumption)|(refine Ext.trans ?_ aM;refine Ext.drew ?_;assumption)) ((go_at_call 205;refine (spec_l1Place al l n oM _).mono ?_;rw [F.out];rintro e w' ⟨rfl,rfl⟩))
  go_wp2;go_ret;exact⟨zD (by rw [R.out]),E.trans aM⟩
abbrev Lay (α:Type):=World->Nat->Nat->Value->α->Prop
structure Lay.Ok {α:Type} (P:Lay α):Prop where
 frm:∀ {S:Nat->Prop} {W W':World} {lo hi:Nat} {r:Value} {x:α},P W lo hi r x->Frm S W W'->(∀ k,lo<=k->k<hi->¬ S k)->P W' lo hi r x
 more:∀ {W:World} {lo hi lo' hi':Nat} {r:Value} {x:α},P W lo hi r x->lo'<=lo->hi<=hi'->P W lo' hi' r x
def zbo:Lay Nat:=fun _ _ _ r n=>r=.int .i64 (n:Nat)
theorem zbo.ok:Lay.Ok zbo:=⟨fun h _ _=>h,fun h _ _=>h⟩
def Lst {α:Type} (P:Lay α) (W:World) (lo hi:Nat) (A:Option Addr) (xs:List α):Prop:=
 ∃ rows,Reads W lo hi 1 A xs.length rows∧∀ (i:Nat) (r:Value) (x:α),rows[i]?=some r->xs[i]?=some x->P W lo hi r x
def LstP {α:Type} (P:Lay α):Lay (List α):=fun W lo hi r xs=>∃ A c,r=.slice A xs.length c∧Lst P W lo hi A xs
section
variable {α:Type} {P:Lay α} {W W':World} {lo hi:Nat} {A:Option Addr} {xs:List α}
theorem Lst.frm (hP:Lay.Ok P) {S:Nat->Prop}(h:Lst P W lo hi A xs)(hx:Frm S W W')(hS:∀ k,lo<=k->k<hi->¬ S k):Lst P W' lo hi A xs:=by
 obtain⟨a,b,c⟩:=h;exact⟨a,b.frm hx hS,fun i r x hr hx'=>hP.frm (c i r x hr hx') hx hS⟩
theorem Lst.ext (hP:Lay.Ok P)(h:Lst P W lo hi A xs)(hx:Ext W W'):Lst P W' lo hi A xs:=h.frm hP hx (fun _ _ _ h=>h)
theorem Lst.more (hP:Lay.Ok P) (h:Lst P W lo hi A xs)(h1:lo'<=lo)(h2:hi<=hi'):Lst P W lo' hi' A xs:=by
 obtain⟨a,b,c⟩:=h;exact⟨a,b.more h1 h2,fun i r x hr hx'=>hP.more (c i r x hr hx') h1 h2⟩
theorem LstP.ok (hP:Lay.Ok P):Lay.Ok (LstP P):=by
 refine⟨fun h hx hS=>?_,fun h h1 h2=>?_⟩
 ·obtain⟨A,c,e,h⟩:=h;exact⟨A,c,e,h.frm hP hx hS⟩
 ·obtain⟨A,c,e,h⟩:=h;exact⟨A,c,e,h.more hP h1 h2⟩
theorem Lst.len (h:Lst P W lo hi A xs):xs.length<=9223372036854775807:=by
 obtain⟨a,b,_⟩:=h;exact b.len
theorem Lst.get (h:Lst P W lo hi A xs)(hk:k<xs.length):∃ b o r x,A=some ⟨b,o,none⟩∧lo<=b∧b<hi∧Hid (xs[k]?=some x)∧W.cell? ⟨b,o+k,none⟩=some r∧P W lo hi r x:=by
 obtain⟨a,g,m⟩:=h;have q:=g.length;rw [Nat.mul_one] at q;obtain⟨f,e,n,p,i⟩:=g.at_ hk;have d:a[0]?=some (a[0]' oM):=dC _;have c:a[k]?=some (a[k]' oM):=dC _;have l:=zcK (i 0 _ d);have j:=i k _ c;rw [l,zK] at j;exact⟨f.block,f.off,_,_,by rw [e,← l],n,p,dC hk,j,m k _ _ c (dC hk)⟩
theorem Lst.get2 {x:α}(h:Lst P W lo hi (some ⟨b,o,none⟩) xs)(hx:xs[k]?=some x):∃ r,W.cell? ⟨b,o+k,none⟩=some r∧P W lo hi r x:=by
 obtain⟨f,g,r,y,e,_,_,a,c,d⟩:=h.get (List.getElem?_eq_some_iff.1 hx).1;injection e with e
 injection e with e1 e2
 subst e1;subst e2;rw [hx] at a;have:=Option.some.inj a.out;subst this;exact⟨r,c,d⟩
end
theorem Lst.bh (h:Reads W lo hi 1 A xs.length (zas xs)):Lst zbo W lo hi A xs:=⟨zas xs,h,fun i r x hr hx=>by
 simp only [zas,dQ,hx,Option.map_some] at hr
 exact (Option.some.inj hr).symm⟩
theorem Lst.ah (h:W.ownsRow base 3 1 (.slice A xs.length c) xs.length (zas xs)):Lst zbo W base W.heap.size A xs:=Lst.bh (dY h)
theorem Lst.num (h:Lst zbo W lo hi A xs)(hk:k<xs.length):∃ b o x,A=some ⟨b,o,none⟩∧lo<=b∧b<hi∧Hid (xs[k]?=some x)∧W.cell? ⟨b,o+k,none⟩=some (.int .i64 (x:Nat)):=by
 obtain⟨b,o,r,x,e,a,c,d,f,g⟩:=h.get hk;exact⟨b,o,x,e,a,c,d,by rw [f,g]⟩
theorem Lst.num2 (h:Lst zbo W lo hi (some ⟨b,o,none⟩) xs)(hx:xs[k]?=some x):W.cell? ⟨b,o+k,none⟩=some (.int .i64 (x:Nat)):=by
 obtain⟨r,a,c⟩:=h.get2 hx;rw [a,c]
def Grl {α:Type} (P:Lay α) (W:World) (base:Nat) (e:TypeId) (v:Value) (xs:List α):Prop:=
 ∃ rows:List Value,W.ownsRow base e 1 v xs.length rows∧∀ (i:Nat) (r:Value) (x:α),rows[i]?=some r->xs[i]?=some x->∃ lo hi,base<=lo∧hi<=W.heap.size∧P W lo hi r x∧∀ b,v.ownBlock=some b->b<lo∨hi<=b
section
variable {α:Type} {P:Lay α} {W W':World} {base:Nat} {e:TypeId} {v:Value} {xs:List α}
theorem Grl.form (h:Grl P W base e v xs):∃ A c,v=.slice A xs.length c:=by
 obtain⟨a,b,_⟩:=h;exact zi b
theorem Grl.lst (hP:Lay.Ok P)  (h:Grl P W base e (.slice A n c) xs):Lst P W base W.heap.size A xs:=by
 obtain⟨a,b,d⟩:=h;have l:n=xs.length:=by
  obtain⟨m,o,k⟩:=zi b;injection k
 subst l;refine⟨a,dY b,fun i r x hr hx=>?_⟩;obtain⟨q,p,f,g,j,_⟩:=d i r x hr hx;exact hP.more j f g
theorem Grl.push (hP:Lay.Ok P)   {v':Value} {x:α} (h2:∀ (i:Nat) (r:Value) (x:α),rows[i]?=some r->xs[i]?=some x->∃ lo hi,base<=lo∧hi<=W.heap.size∧P W lo hi r x∧∀ b,v.ownBlock=some b->b<lo∨hi<=b)(h1:W.ownsRow base e 1 v xs.length rows)
  (hx:Ext W W1) (hr:P W1 lo hi r x) (hlo:W.heap.size<=lo) (hb:base<=lo) (hhi:hi<=W1.heap.size) (zjc:W'.ownsRow base e 1 v' (xs.length+1) (rows++[r])) (hg:W1.grownBy W' v.ownBlock) (hat:v'.ownBlock=v.ownBlock∨v'.ownBlock=some (W1.heap.size+1)):Grl P W' base e v' (xs++[x]):=by
 have g:rows.length=xs.length:=by have:=zfv h1;omega
 have c:Frm (fun k=>v.ownBlock=some k) W1 W':=Frm.ae hg;refine⟨rows++[r],by rw [dL,eA];exact zjc,fun i s y hs hy=>?_⟩;rcases eN i rows.length with a | a | a
 ·rw [dK a] at hs;rw [dK oM] at hy;obtain⟨j,f,m,n,o,l⟩:=h2 i s y hs hy;refine⟨j,f,m,dJ n (dJ hx.size c.size),hP.frm (hP.frm o hx (fun _ _ _ h=>h)) c (fun k hk1 hk2 hk=>by have:=l k hk;omega),fun b hb'=>?_⟩;rcases hat with d|d
  ·rw [d] at hb';exact l b hb'
  ·rw [d] at hb';have:=Option.some.inj hb';have:=hx.size;omega
 ·rw [dP oM,a,eW] at hs;rw [dP oM,a,g,eW] at hy;simp at hs hy;subst hs;subst hy;refine⟨lo,hi,hb,dJ hhi c.size,hP.frm hr c (fun k hk1 hk2 hk=>by have:=(h1.lt k hk).2;omega),fun b hb'=>?_⟩;rcases hat with d|d
  ·rw [d] at hb';have:=(h1.lt b hb').2;omega
  ·rw [d] at hb';have:=Option.some.inj hb';omega
 ·rw [dZ (by simp;omega)] at hs;cases hs
theorem Grl.push2 (hP:Lay.Ok P)    {x:α} (h2:∀ (i:Nat) (r:Value) (x:α),rows[i]?=some r->xs[i]?=some x->∃ lo hi,base<=lo∧hi<=W.heap.size∧P W lo hi r x∧∀ b,v.ownBlock=some b->b<lo∨hi<=b)(h1:W.ownsRow base e 1 v xs.length rows)
  (hx:Ext W W1) (hr:P W1 lo hi r x) (hlo:W.heap.size<=lo) (hb:base<=lo) (hhi:hi<=W1.heap.size) (zjc:W'.ownsRow base e 1 (.slice (some g) (xs.length+1) cap) (xs.length+1) (rows++[r])) (hg:W1.grownBy W' v.ownBlock) (hat:v.ownBlock=some g∨g=W1.heap.size+1):Grl P W' base e (.slice (some g) (xs.length+1) cap) (xs++[x]):=
 Grl.push hP h2 h1 hx hr hlo hb hhi zjc hg (by
  rcases hat with h|h
  ·exact Or.inl h.symm
  ·exact Or.inr (by rw [h];rfl))
end
theorem info_pmov:(Tryz.prog.info? 166).map (fun i=>(i.zero,i.size,i.bytes))=some (some (.pointer none),1,8):=kM
def ptrs (bs:List Nat):List Value:=bs.map fun b=>.pointer (some ⟨b,0,none⟩)
def MovL (w:World) (bs:List Nat) (ss:List Sys):Prop:=bs.length=ss.length∧∀ (i b:Nat) (s:Sys),bs[i]?=some b->ss[i]?=some s->MovB w b s.edges
theorem MovL.ext (h:MovL w bs ss)(hx:Ext w w'):MovL w' bs ss:=⟨h.1,fun i b s hb hs=>(h.2 i b s hb hs).ext hx⟩
theorem MovL.snoc (h:MovL w bs ss)(hx:Ext w w')(hb:MovB w' b s.edges):MovL w' (bs++[b]) (ss++[s]):=by
 have c:=h.1;refine⟨by simp [c],fun i b' s' hb' hs'=>?_⟩;rcases eN i bs.length with a|a|a
 ·rw [dK a] at hb';rw [dK oM] at hs';exact (h.2 i b' s' hb' hs').ext hx
 ·rw [dP oM,a,eW] at hb';rw [dP oM,a,c,eW] at hs';simp at hb' hs';subst hb';subst hs';exact hb
 ·rw [dZ (by simp;omega)] at hb';cases hb'
theorem MovL.frm {S:Nat->Prop}   (h:MovL w bs ss)(hx:Frm S w w')(hS:∀ (b:Nat) (cs:Array Value),Blk w b 213 cs->¬ S b):MovL w' bs ss:=
 ⟨h.1,fun i b s hb hs=>by
  obtain⟨cs,hB,hc⟩:=h.2 i b s hb hs
  exact⟨cs,hB.frm hx (hS b cs hB),hc⟩⟩
structure PtAt (w:World) (lo hi:Nat) (A:Option Addr) (k lo' hi':Nat) (M:Option Addr) (ss:List Sys):Prop where
 sys:zet w lo hi A k ss
 mov:∃ bs,Reads w lo' hi' 1 M k (ptrs bs)∧MovL w bs ss
theorem PtAt.ext {M:Option Addr} (h:PtAt w lo hi A k lo' hi' M ss)(hx:Ext w w'):PtAt w' lo hi A k lo' hi' M ss:=by
 obtain⟨a,c,b⟩:=h.mov;exact⟨h.sys.ext hx,a,c.ext hx,b.ext hx⟩
structure Grp (w0 W:World) (G:Nat) (a v:Value) (bs:List Nat) (ss:List Sys):Prop where
 blk:Blk W G 217 #[a,v]
 own:W.ownsRow w0.heap.size 166 1 v bs.length (ptrs bs)
 mov:MovL W bs ss
 ext:Ext w0 W
 hG:w0.heap.size<=G
theorem Grp.ax {a:Value}  (h:Grp w0 W G a v bs ss)(hb:Ext W W'):Grp w0 W' G a v bs ss:=⟨h.blk.ext hb,zg h.own hb,h.mov.ext hb,h.ext.trans hb,h.hG⟩
theorem zdQ {size:Nat}  {xs:List Value} {cs:Array Value}(h:w.ownsRow base e size v n xs)(hB:Blk w G t cs)(hne:e≠t) (hv:v.ownBlock=some b):b≠G:=by
 rintro rfl;rcases h.2 with ⟨rfl,_⟩|⟨g,a,c,rfl,_,f,_⟩
 ·simp [Value.ownBlock] at hv
 ·have d:g=b:=by simpa [Value.ownBlock] using hv
  subst d;unfold Blk at hB;rw [f] at hB;injection hB with hB
  injection hB with _ ht
  exact absurd ht hne
theorem Grp.push {a:Value}    (h:Grp w0 W G a v bs ss)(hb:MovB W b s.edges)
  (zjc:W'.ownsRow w0.heap.size 166 1 (.slice (some g) (bs.length+1) cap) (bs.length+1) (ptrs bs++[.pointer (some b)]))
  (hg:W.grownBy W' v.ownBlock) (hat:v.ownBlock=some g∨g=W.heap.size+1) :
  Hid (W'.cell? ⟨G,1,none⟩=some v)∧W'.frozen? ⟨G,1,none⟩=false∧Grp w0 (W'.setCell ⟨G,1,none⟩ (.slice (some g) (bs.length+1) cap)) G a (.slice (some g) (bs.length+1) cap) (bs++[b]) (ss++[s]):=by
 have d:Blk W' G 217 #[a,v]:=(hg.block G h.blk.lt (fun e=>zdQ h.own h.blk dM e.symm rfl)).trans h.blk;have m:g≠G:=by
  rcases hat with l|l
  ·exact zdQ h.own h.blk dM l
  ·have:=h.blk.lt;omega
 have n:Ext w0 W':=h.ext.grown hg (fun k hk=>(h.own.lt k hk).1);have f:=dE W' G 1 (.slice (some g) (bs.length+1) cap);have i:Frm (fun k=>v.ownBlock=some k) W W':=Frm.ae hg;have j:MovL W' (bs++[b]) (ss++[s]):=(h.mov.snoc (cW W) hb).frm i (fun c cs hc hS=>zdQ h.own hc dM hS rfl);refine⟨d.cell 1,d.frozen 1,⟨by simpa using d.ab 1 _,?_,j.frm f (fun c cs hc hS=>?_),n.setCell (p:=⟨G,1,none⟩) h.hG _,h.hG⟩⟩
 ·rw [dL,eA,show ptrs (bs++[b])=ptrs bs++[.pointer (some b)] by simp [ptrs]];exact zf zjc f (fun c hv hS=>by
   have:g=c:=by simpa [Value.ownBlock] using hv
   omega)
 ·subst hS;unfold Blk at hc d;rw [hc] at d;injection d with d
  injection d with _ ht
  exact absurd ht dM
theorem zeX (h:zet w lo hi A n ss)(hf:∀ s∈ss,Few 16 s.edges)(hn4:n<=1000) :
  Calls Tryz.prog 197 #[.slice A n c] w fun e w'=>∃ M d,e=.returned (.agg #[.slice A n c,.slice M n d])∧PtAt w' lo hi A n w.heap.size w'.heap.size M ss∧Ext w w':=by
 have HS:=za (fun W (hW:Ext w W)=>h.ext hW);have hL:=za h.1;have Hf:=za hf;have af:=h.len;clear hf
 go_enter Tryz.func197,Tryz.ntmps197
 obtain⟨l,bG⟩:=zT (cW ((w.alloc (.cells #[(),()] 217)).alloc (.cells #[.slice A n c,()] 217)));have E:Ext w ((w.alloc (.cells #[(),()] 217)).alloc (.cells #[.slice A n c,()] 217)):=((cW w).alloc _).alloc _;go_upto_region 2 with fail
 have ai:w.heap.size<=(w.alloc (.cells #[(),()] 217)).heap.size:=sM;have D:(w.alloc (.cells #[(),()] 217)).heap.size=w.heap.size+1:=sM;have j:Grp (w.alloc (.cells #[(),()] 217)) ((w.alloc (.cells #[(),()] 217)).alloc (.cells #[.slice A n c,()] 217)) (w.heap.size+1) (.slice A n c) (.slice none 0 0) [] []:=
  ⟨bG,World.ownsRow_nil _ _ _ _,⟨rfl,fun i b s hb=>by simp at hb⟩,(cW _).alloc _,by rw [D];exact cY _⟩
 clear bG;generalize (w.alloc _).alloc _=w2 at *;generalize w.alloc _=w1 at *;go_wp2_with fail
 go_loopw [10] (fun i wr=>∃ (k:Nat) (v:Value) (t:List Nat),k<=n∧i=.int .i64 k∧Grp w1 wr (w.heap.size+1) (.slice A n c) v t (ss.take k)∧Hid (t.length=k)∧Blk wr w.heap.size 217 #[(),()]∧Ext w wr) (fun i _=>n - (intOf i).toNat)
 case atStart=>exact⟨0,_,[],dD _,rfl,by simpa using j,za rfl,l,E⟩
 case round =>
  clear j l E w2;obtain⟨k,v,t,hk,rfl,j,r,l,T⟩:=hrel
  by_cases hlt:k<n
  ·obtain⟨g,o,s,B,m,c',rfl,_,_,hs,c0,c1,c2,S⟩:=(HS.out wr T).sys hlt;have Q:=za (Hf.out s (cX hs.out));have H:=za (show ss.take (k+1)=ss.take k++[s] by rw [dH,hs.out];rfl);have u:=(cW wr).alloc (.cells #[s.al,s.st,.slice B m c'] 39);have f:=j.ax u;have U:=T.trans u;have x:=l.ext u;have C:=S.ext u;clear j;go_upto_region 5 with fail
   clear c0 c1 c2;generalize U0:wr.alloc _=w3 at *;have O:=Ext.bl_ U0;clear U0;have c5:=O.cells;have cG:=fun W (hW:Ext w3 W)=>(f.blk.ext hW).cell;have F:=cW w3;refine uR (fun X=>Ext w3 X) [5,7] (zw.of [0,1,2,3,4,5,6,7]) ?_;refine uQ ?_;refine zd fun K hK=>?_;go_simp;refine (zfJ (C.ext F.drew) Q.out).mono ?_;rintro e w4 ⟨b,rfl,av,R,Z⟩;have a:=F.drew.trans Z;refine hK.out _ _ a ?_;refine pT ?_;refine uQ ?_;refine zd fun K hK=>?_;go_simp;refine hK.out _ _ (a.alloc _) ?_;refine pT ?_;refine zb fun K hK=>?_;refine zaL w1 w4 _ _ _ rfl 166 _ 1 8 Tryz.underlying215 info_pmov rfl dM v t.length (ptrs t) _ _ rfl rfl (f.ext.trans a).size (zg f.own a) rfl (by simp [Value.oneCell']) (by unfold maxLen;have:=r.out;omega) (oH r.out) ?_;intro g5 cap5 w5 zjo hg5 hat5 hlt5;refine hK.out _ _ ?_;refine pT ?_;refine uQ ?_;obtain⟨p1,p2,p3⟩:=(f.ax a).push (s:=s) R (W':=w5) zjo hg5 hat5;have ay:=p1.out;have I:Blk w5 w.heap.size 217 #[.slice none 0 0,.slice none 0 0]:=(hg5.block _ (x.ext a).lt (fun e=>zdQ (zg f.own a) (x.ext a) dM e.symm rfl)).trans (x.ext a);have V:Ext w w5:=(U.trans a).grown hg5 (fun q hq=>by have:=(zg f.own a).lt q hq;omega);have J:=I.far (p:=⟨w.heap.size+1,1,none⟩) sM (.slice (some g5) (t.length+1) cap5);have Y:=V.setCell (p:=⟨w.heap.size+1,1,none⟩) sM (.slice (some g5) (t.length+1) cap5);refine zb fun K hK=>?_;go_simp;refine hK.out _ _ ?_;refine ze ?_;go_wp2_with fail
   go_roundw
   case rel=>exact⟨k+1,_,t++[b],oM,gM,by rw [H.out];exact p3,za (by rw [dL,r.out];rfl),J,Y⟩
   case measure=>simp [intOf];omega
  ·obtain rfl:n=k:=oM;obtain⟨M,d,rfl⟩:∃ M d,v=.slice M n d:=by
    have z:=j.own;rw [r.out] at z;exact zi z
   have cG:=j.blk.cell;have cZ:=l.cell;have fZ:=l.frozen;have y:Frm (fun k=>k=w.heap.size) wr ((wr.setCell w.heap.size (.slice A n c)).setCell ⟨w.heap.size,1,none⟩ (.slice M n d)):=(dE wr _ 0 _).trans (dE _ _ 1 _);have L:Blk ((wr.setCell w.heap.size (.slice A n c)).setCell ⟨w.heap.size,1,none⟩ (.slice M n d)) w.heap.size 217 #[.slice A n c,.slice M n d]:=by simpa using (l.ab 0 (.slice A n c)).ab 1 (.slice M n d)
   have G:=T.frm y (fun k hk e=>oM);have ab:=za (show ∃ M' d',Ending.returned (.agg #[.slice A n c,.slice M n d])=.returned (.agg #[.slice A n c,.slice M' n d'])∧PtAt ((wr.setCell w.heap.size (.slice A n c)).setCell ⟨w.heap.size,1,none⟩ (.slice M n d)) lo hi A n w.heap.size ((wr.setCell w.heap.size (.slice A n c)).setCell ⟨w.heap.size,1,none⟩ (.slice M n d)).heap.size M' ss∧Ext w ((wr.setCell w.heap.size (.slice A n c)).setCell ⟨w.heap.size,1,none⟩ (.slice M n d)) from by
    refine⟨M,d,rfl,⟨HS.out _ G,t,?_,?_⟩,G⟩
    ·have z:=zbd j.own y (fun b h1 e=>oM);rw [r.out] at z;exact (dY z).more oM (cY _)
    ·have hm:=j.mov;rw [dG (oH hL.out)] at hm;exact hm.frm y (fun b cs hc hS=>by
      subst hS;unfold Blk at hc l;rw [hc] at l;injection l with l
      injection l with _ ht
      exact absurd ht dM))
   go_wp2_with fail
   generalize (wr.setCell w.heap.size (.slice A n c)).setCell ⟨w.heap.size,1,none⟩ (.slice M n d)=wf at *;have cf:=L.cell;exact bodyPost_ret (v:=.agg #[.slice A n c,.slice M n d]) (by simp [results,Tryz.results197,go_sem,cf]) rfl ab.out
theorem zdC (l:List Nat) (x:Nat):zas (l++[x])=zas l++[.int .i64 (x:Nat)]:=by simp [zas]
theorem spec_l4Sizes {L G:Int}  {us:List Aut} (h:zeO w PA pn AA an ss us)(hok:zcX ss us) :
  Calls Tryz.prog 206 #[.agg #[.slice PA pn pc,.slice AA an ac,sv,L,K,G]] w (zbJ w (szs ss us)):=by
 have M:=za (fun W (hW:Ext w W)=>h.ext hW);have z:Hid (pn=ss.length):=by obtain⟨_,_,E⟩:=h.sys;exact E.1
 have x:Hid (an=us.length):=by obtain⟨_,_,E⟩:=h.aut;exact E.1
 have ae:pn<=3:=by rw [z.out];exact hok.few
 have Y:an<=2:=by rw [x.out];exact hok.few'
 have u:=za hok;clear h hok
 go_enter Tryz.func206,Tryz.ntmps206
 have J:Ext w (w.alloc (.cells #[.slice PA pn pc,.slice AA an ac,sv,L,K,G] 178)):=(cW w).alloc _;have F:=dT w 178 #[.slice PA pn pc,.slice AA an ac,sv,L,K,G];go_wp2
 go_loopw [3,4] (fun v i wr=>∃ k:Nat,k<=pn∧i=.int .i64 k∧wr.ownsRow w.heap.size 3 1 v k (zas ((ss.take k).map fun s=>s.st.toNat))∧Ext w wr∧Blk wr w.heap.size 178 #[.slice PA pn pc,.slice AA an ac,sv,L,K,G])
  (fun _ i _=>pn - (intOf i).toNat)
 case atStart=>exact⟨0,dD _,rfl,(by have X:=World.ownsRow_lit (base:=w.heap.size) (e:=3) (size:=1) (w.alloc (.cells #[.slice PA pn pc,.slice AA an ac,sv,L,K,G] 178)) #[] 0 sM lM rfl;simpa [zas] using X),J.alloc _,F.ext ((cW _).alloc _)⟩
 case round =>
  obtain⟨k,hk,rfl,j,l,g⟩:=hrel;have O:=g.cell
  by_cases hlt:k<pn
  ·obtain⟨lo,hi,r⟩:=(M.out wr l).sys;obtain⟨b,o,s,B,q,d,rfl,ad,Z,C,U,Q,V,I⟩:=r.sys hlt;have D:=zcR (u.out.sys s (cX C.out));obtain⟨p,T⟩:∃ p:Nat,Hid (s.st=p):=⟨s.st.toNat,by have:=D.1;unfold Hid;omega⟩;rw [T.out] at Q;have t:=za (show (ss.take (k+1)).map (fun s=>s.st.toNat)=(ss.take k).map (fun s=>s.st.toNat)++[p] by rw [dH,C.out];simp [T.out]);clear D r I;go_wp2_with (at_builtin;refine zL w wr rfl _ _ _ rfl 3 _ 1 8 Tryz.underlying74 zae rfl dM u3 _ _ _ _ rfl rfl l j rfl (zbq _) lM oM ?_;intro v' w1 hext1 zjl hg1 hat1)
   have n:Blk w1 w.heap.size 178 #[.slice (some ⟨b,o,none⟩) pn pc,.slice AA an ac,sv,.int .i64 L,.int .i64 K,.int .i64 G]:=(hg1.block _ g.lt (fun e=>zdQ j g dM e.symm rfl)).trans g;go_roundw
   case rel=>exact⟨k+1,oM,gM,by rw [t.out,zdC];exact zjl,hext1,n⟩
   case measure=>simp [intOf];omega
  ·obtain rfl:pn=k:=oM;have f:wr.ownsRow w.heap.size 3 1 u3 pn (zas (ss.map fun s=>s.st.toNat)):=by rw [dG (oH z.out)] at j;exact j
   clear j;go_wp2
   go_loopw [3,5] (fun v i wr=>∃ k:Nat,k<=an∧i=.int .i64 k∧wr.ownsRow w.heap.size 3 1 v (pn+k) (zas (ss.map (fun s=>s.st.toNat)++(us.take k).map fun a=>a.next.length))∧Ext w wr∧Blk wr w.heap.size 178 #[.slice PA pn pc,.slice AA an ac,sv,L,K,G])
    (fun _ i _=>an - (intOf i).toNat)
   case atStart=>exact⟨0,dD _,rfl,by simpa using f,l,g⟩
   case round =>
    clear f l g O;obtain⟨k,hk,rfl,j,l,g⟩:=hrel;have O:=g.cell
    by_cases hlt:k<an
    ·obtain⟨lo,hi,r⟩:=(M.out wr l).aut;obtain⟨b,o,a,B,m,c,B',m',c',rfl,C,U,Q,V,y⟩:=r.aut hlt;have R:=za y.n1;have S:m<=12:=by have:=(zk (u.out.aut a (cX C.out))).2.1;rw [← R.out] at this;omega
     have t:=za (show ss.map (fun s=>s.st.toNat)++(us.take (k+1)).map (fun a=>a.next.length)=(ss.map (fun s=>s.st.toNat)++(us.take k).map (fun a=>a.next.length))++[m] by rw [dH,C.out];simp [R.out]);clear r y;go_wp2_with (at_builtin;refine zL w wr rfl _ _ _ rfl 3 _ 1 8 Tryz.underlying74 zae rfl dM u3 _ _ _ _ rfl rfl l j rfl (zbq _) lM oM ?_;intro v' w1 hext1 zjl hg1 hat1)
     have n:Blk w1 w.heap.size 178 #[.slice PA pn pc,.slice (some ⟨b,o,none⟩) an ac,sv,.int .i64 L,.int .i64 K,.int .i64 G]:=(hg1.block _ g.lt (fun e=>zdQ j g dM e.symm rfl)).trans g;go_roundw
     case rel=>exact⟨k+1,oM,gM,by rw [t.out,zdC];exact zjl,hext1,n⟩
     case measure=>simp [intOf];omega
    ·obtain rfl:an=k:=oM;have f:wr.ownsRow w.heap.size 3 1 u3 (pn+an) (zas (szs ss us)):=by rw [dG (oH x.out)] at j;exact j
     have H:pn+an=(szs ss us).length:=by have:=zfv f;simp [zas] at this;omega
     rw [H] at f;obtain⟨A5,c5,rfl⟩:=zi f;clear j;go_wp2;go_ret;exact⟨_,_,rfl,f,l⟩
theorem ziQ (h:Lst zbo w lo hi A sz)(h':Lst zbo w lo' hi' B st)(hl:sz.length=st.length)(hb:∀ k,k<=sz.length->encF 0 (sz.take k) (st.take k)<=1048576)(hz:∀ x∈sz,x<=16)(hs:∀ x∈st,x<=16) :
  Calls Tryz.prog 211 #[.slice A sz.length c,.slice B st.length d] w fun e w'=>e=.returned (.int .i64 (encF 0 sz st:Nat))∧Ext w w':=by
 have L:=za (fun W (hW:Ext w W)=>h.ext zbo.ok hW);have M:=za (fun W (hW:Ext w W)=>h'.ext zbo.ok hW);have O:=za hb;have R:=za hz;have Q:=za hs;have m:=h.len;have T:∃ n:Nat,Hid (sz.length=n)∧Hid (st.length=n):=⟨sz.length,rfl,hl.symm⟩;obtain⟨n,a,g⟩:=T;rw [a.out] at m;rw [a.out,g.out];clear hb hz hs hl h h'
 go_enter Tryz.func211,Tryz.ntmps211
 go_wp2
 go_loopw [5,6] (fun v i wr=>∃ k y:Nat,k<=n∧i=.int .i64 k∧v=.int .i64 y∧Hid (y=encF 0 (sz.take k) (st.take k))∧y<=1048576∧Ext w wr) (fun _ i _=>n - (intOf i).toNat)
 case atStart=>exact⟨0,0,dD _,rfl,rfl,rfl,oM,cW _⟩
 case round =>
  obtain⟨k,y,hk,rfl,rfl,H,V,r⟩:=hrel
  by_cases hlt:k<n
  ·obtain⟨b,o,s,rfl,_,_,hs,D⟩:=(L.out wr r).num (show k<sz.length by rw [a.out];exact hlt);obtain⟨S,X,t,rfl,_,_,F,l⟩:=(M.out wr r).num (show k<st.length by rw [g.out];exact hlt);have E:=R.out s (cX hs.out);have G:=Q.out t (cX F.out);have Y:∀ W,Ext wr W->W.cell? ⟨b,o+k,none⟩=some (.int .i64 (s:Nat)):=fun W hW=>hW.aa D;have Z:∀ W,Ext wr W->W.cell? ⟨S,X+k,none⟩=some (.int .i64 (t:Nat)):=fun W hW=>hW.aa l;have j:=za (show encF 0 (sz.take (k+1)) (st.take (k+1))=y*s+t by
    have u:∀ (k acc:Nat) (sz st:List Nat),sz[k]?=some s->st[k]?=some t->encF acc (sz.take (k+1)) (st.take (k+1))=encF acc (sz.take k) (st.take k)*s+t:=by
     intro k
     induction k with
     |zero =>
      intro acc sz st h1 h2;cases sz<;>cases st<;>simp at h1 h2
      subst h1;subst h2;simp [encF]
     |succ k ih =>
      intro acc sz st h1 h2;cases sz<;>cases st<;>simp at h1 h2
      simpa [encF] using ih _ _ _ h1 h2
    rw [u k 0 sz st hs.out F.out,H.out])
   have f:=O.out (k+1) (by rw [a.out];omega);rw [j.out] at f;have p:y*s<=1048576:=oM;obtain⟨J,q⟩:∃ z:Nat,Hid (y*s=z):=⟨_,rfl⟩;have I:(y:Int)*(s:Int)=(J:Int):=by rw [← q.out];exact (Int.natCast_mul y s).symm
   rw [q.out] at p f j;have U:=cW wr;clear D l;go_wp2_with fail
   go_quiet (fail)
   go_wp2_with fail
   go_roundw
   case rel=>exact⟨k+1,J+t,oM,gM,gM,by unfold Hid;rw [j.out],f,r.drewN _⟩
   case measure=>simp [intOf];omega
  ·obtain rfl:n=k:=oM;have C:=za (show y=encF 0 sz st by rw [H.out,dG (by rw [a.out];exact cY _),dG (by rw [g.out];exact cY _)]);go_wp2;go_ret;exact⟨zD (by rw [C.out]),r⟩
def decV (sz:List Nat) (x k:Nat):List Nat:=dN k 0++dec (sz.drop k) x
theorem decV_set {s:Nat}(h:sz[k]?=some s):(zas (decV sz x (k+1))).set k (.int .i64 ((x / zay (sz.drop (k+1)) % s:Nat):Int))=zas (decV sz x k):=by
 have a:sz.drop k=s :: sz.drop (k+1):=by
  obtain⟨b,rfl⟩:=List.getElem?_eq_some_iff.1 h;exact fL b
 unfold decV zas;rw [a,dec,List.replicate_succ',List.append_assoc,eP,eP,List.set_append_right _ _ sM];simp
theorem zfj {y0:Nat}   (h:Lst zbo w lo hi A sz)(hn:sz.length=n)(hn5:n<=1000)(hz:∀ x∈sz,1<=x∧x<=16)(hy:y0<=4611686018427387904) :
  Calls Tryz.prog 209 #[.slice A n c,y0] w (zbJ w (dec sz y0)):=by
 have F:=za (fun W (hW:Ext w W)=>h.ext zbo.ok hW);have H:=za hz;have d:=za hn;clear hz h hn
 go_enter Tryz.func209,Tryz.ntmps209
 go_wp2_with (at_make;refine zbD w w rfl _ _ 74 rfl 3 _ 1 8 Tryz.underlying74 zae _ _ n rfl rfl (cW _) oM lM ?_;intro w3 hw3 zjn hx23 hsz3)
 generalize hg:w.heap.size=g at *;have G:=za hg;clear hg hx23 hsz3
 go_loopw [1,6] (fun v i wr=>∃ k y:Nat,k<=n∧i=.int .i64 ((k:Int) - 1)∧v=.int .i64 y∧y<=4611686018427387904∧Hid (y=y0 / zay (sz.drop k))∧wr.ownsRow g 3 1 (.slice (some g) n n) n (zas (decV sz y0 k))∧Ext w wr) (fun _ i _=>(intOf i+1).toNat)
 case atStart=>exact⟨n,y0,cY _,gM,rfl,hy,by unfold Hid;rw [fU (oH d.out)];simp [zay],by rw [decV,fU (oH d.out)];simpa [zas,dec,Value.cells,toList_madeCells_one] using zjn,hw3⟩
 case round =>
  clear zjn hw3;obtain⟨k,y,X,rfl,rfl,D,f,a,t⟩:=hrel
  by_cases hlt:0<k
  ·obtain⟨j,rfl⟩:∃ j,k=j+1:=⟨k - 1,oM⟩;obtain⟨b,o,s,rfl,_,_,r,V⟩:=(F.out wr t).num (show j<sz.length by have:=d.out;omega);obtain⟨Z,Q⟩:=H.out s (cX r.out);obtain⟨Y,T⟩:=zaX a j oM;have S:=a.frozenAt j;have M:(y:Int) % (s:Int)=((y % s:Nat):Int):=(Int.natCast_emod y s).symm;have L:(y:Int) / (s:Int)=((y / s:Nat):Int):=(Int.natCast_ediv y s).symm;have q:=a.stored j (.int .i64 ((y % s:Nat):Int));rw [f.out,decV_set r.out,← f.out] at q;have u:=za (show y / s=y0 / zay (sz.drop j) by
    rw [f.out,iL,fL (show j<sz.length by have:=d.out;omega),zay];have:sz[j]'(oH d.out)=s:=by
     obtain⟨U,I⟩:=List.getElem?_eq_some_iff.1 r.out;exact I
    rw [this,iG])
   have B:y / s<=4611686018427387904:=dJ (gS _ _) D;have O:¬ (s=0):=oM;have l:w.heap.size<=g:=oH G.out;have z:((j+1:Nat):Int) - 1=(j:Int):=oM;rw [z];have J:=(F.out _ (t.setCell (p:=⟨g,j,none⟩) l (.int .i64 ((y % s:Nat):Int)))).num2 r.out;generalize y % s=ym at *;generalize y / s=R at *;go_wp2;go_roundw
   case rel=>exact⟨j,R,oM,rfl,rfl,B,u,q.1,t.setCell (p:=⟨g,j,none⟩) l _⟩
   case measure=>simp [intOf]
  ·obtain rfl:k=0:=oM;have m:=zcL sz y0;have E:=za (show wr.ownsRow w.heap.size 3 1 (.slice (some g) (dec sz y0).length n) (dec sz y0).length (zas (dec sz y0)) by
    rw [m,d.out,G.out];simpa [decV] using a)
   have C:(dec sz y0).length=n:=oH d.out;go_wp2;go_ret;exact⟨some ⟨g,0,none⟩,n,by rw [C];rfl,E.out,t⟩
theorem spec_l4In (h:Lst zbo w lo hi A xs)(hn:xs.length=n) :
  Calls Tryz.prog 245 #[.slice A n c,x] w fun e w'=>e=.returned (.bool (decide (x∈xs)))∧w=w':=by
 have l:=za hn;have a:=h.len;rw [hn] at a;clear hn
 go_enter Tryz.func245,Tryz.ntmps245
 go_wp2
 go_loop [5] (fun i=>∃ k:Nat,k<=n∧i=.int .i64 k∧Hid (∀ (j z:Nat),j<k->xs[j]?=some z->z≠x)) (fun i=>n - (intOf i).toNat)
 case atStart=>exact⟨0,dD _,rfl,(show Hid _ from fun j z f=>oM)⟩
 case round =>
  obtain⟨k,r,rfl,d⟩:=hrel
  by_cases hlt:k<n
  ·obtain⟨b,o,z,rfl,_,_,m,q⟩:=h.num (show k<xs.length by rw [l.out];exact hlt)
   by_cases hzx:z=x
   ·subst hzx;have g:=za (cX m.out);go_wp2;go_ret;exact⟨zj (by rw [decide_eq_true g.out]),rfl⟩
   ·have p:((z:Int)==(x:Int))=false:=by simp;omega
    go_wp2
    go_round
    case rel=>exact⟨k+1,oM,gM,(show Hid _ from fun j y f hy=>by
     by_cases e:j=k
     ·subst e;have:=m.out;rw [hy] at this;injection this with this
      subst this;exact hzx
     ·exact d.out j y oM hy)⟩
    case measure=>simp [intOf];omega
  ·obtain rfl:n=k:=oM;have g:=za (show ¬ x∈xs from fun hx=>by
    obtain⟨j,f⟩:=dX hx;exact d.out j x (by have:=(List.getElem?_eq_some_iff.1 f).1;rw [l.out] at this;exact this) f rfl)
   go_wp2;go_ret;exact⟨zj (by rw [decide_eq_false g.out]),rfl⟩
def zdr (a:Aut) (q:Nat):Bool:=a.acc.getD q false
theorem zhj {L G:Int}  {us:List Aut}  {SA:Option Addr} {sn sc hi:Nat}  (h:zeO w PA pn AA an ss us)(h':Lst zbo w lo hi SA st)(hsn:st.length=sn)(hi:us[i]?=some a)(hq:st[pn+i]?=some q)(hqa:q<a.acc.length) :
  Calls Tryz.prog 243 #[.agg #[.slice PA pn pc,.slice AA an ac,sv,L,K,G],.slice SA sn sc,i] w fun e w'=>e=.returned (.bool (zdr a q))∧Ext w w':=by
 have s:i<an:=by obtain⟨_,_,p⟩:=h.aut;rw [p.1];exact (List.getElem?_eq_some_iff.1 hi).1
 have v:pn+i<sn:=by rw [← hsn];exact (List.getElem?_eq_some_iff.1 hq).1
 obtain⟨ab,V,g⟩:=h.aut;have M:=g.len;have t:pn<=9223372036854775807:=by obtain⟨_,_,p⟩:=h.sys;exact p.len
 have j:=h'.len;rw [hsn] at j;obtain⟨b,o,Q,B,m,c,B',y,S,rfl,k,T,U,I,d⟩:=g.aut s;obtain rfl:a=Q:=by have:=k.out;rw [hi] at this;exact Option.some.inj this
 obtain⟨R,os,q',rfl,_,_,n,J⟩:=h'.num (show pn+i<st.length by rw [hsn];exact v);obtain rfl:q=q':=by have:=n.out;rw [hq] at this;exact Option.some.inj this
 have u:q<y:=by rw [d.n2];exact hqa
 obtain⟨D,x,rfl,_,_,O,l⟩:=d.2.2.bool u;have C:=za (show zdr a q=x by unfold zdr;rw [dI,O.out];rfl);have Y:=d.2.2.len;have E:∀ W,Ext w W->W.cell? ⟨b,o+i*3+2,none⟩=some (.slice (some D) y S):=fun W hW=>hW.aa I;have F:∀ W,Ext w W->W.cell? ⟨R,os+(pn+i),none⟩=some (.int .i64 (q:Nat)):=fun W hW=>hW.aa J;have H:∀ W,Ext w W->W.cell? (D.add q)=some (.bool x):=fun W hW=>hW.aa l;clear g d h h' T U I J l O n k hi hq hqa
 go_enter Tryz.func243,Tryz.ntmps243
 go_wp2_with fail
 generalize U0:w.alloc _=z at *;obtain⟨f,r⟩:=Ext.x1_ U0;clear U0;have c0:=r.cell;have E:=E z f;have F:=F z f;have H:=H z f;have Z:(pn:Int)+(i:Int)<(sn:Int):=oM;have X:(i:Int)<(an:Int):=oM;have aa:(q:Int)<(y:Int):=oM
 go_quiet (fail)
 go_wp2_with fail
 go_ret;exact⟨zj (by rw [C.out]),f.drewN _⟩
def zap (w:World) (A:Option Addr) (m:Nat) (l:List Nat):Prop:=
 m=l.length∧m<=9223372036854775807∧(0<m->∃ (g o:Nat) (cs:Array Value),A=some ⟨g,o,none⟩∧w.heap[g]?=some (.cells cs 3 (0,0))∧∀ j x,l[j]?=some x->w.cell? ⟨g,o+j,none⟩=some (.int .i64 (x:Nat)))
theorem zap.frm {S:Nat->Prop}    {l:List Nat}(h:zap w A m l)(hb:Frm S w w')(hS:∀ k,S k->∀ cs,w.heap[k]?≠some (.cells cs 3 (0,0))):zap w' A m l:=by
 refine⟨h.1,h.2.1,fun h0=>?_⟩;obtain⟨g,o,cs,e,b,d⟩:=h.2.2 h0;have a:=(Array.getElem?_eq_some_iff.1 b).1;have c:¬ S g:=fun hs=>hS g hs cs b;exact⟨g,o,cs,e,(hb.block g a c).trans b,fun j x hx=>(World.cell?_of_block (w:=w) (hb.block g a c)).trans (d j x hx)⟩
theorem zap.ext {l:List Nat}(h:zap w A m l)(hb:Ext w w'):zap w' A m l:=h.frm (S:=fun _=>False) hb (fun _ hk=>hk.elim)
theorem zap.at_ {l:List Nat}(h:zap w A m l)(hk:k<m):∃ (g o x:Nat),A=some ⟨g,o,none⟩∧Hid (l[k]?=some x)∧w.cell? ⟨g,o+k,none⟩=some (.int .i64 (x:Nat)):=by
 obtain⟨g,o,c,e,_,b⟩:=h.2.2 oM;have a:l[k]?=some (l[k]'(oH h.1)):=dC _;exact⟨g,o,_,e,a,b k _ a⟩
theorem zap.own {l:List Nat}(h:w.ownsRow base 3 1 (.slice A n c) n (zas l)):zap w A n l:=by
 have i:=h.1;rw [nats_length] at i;refine⟨oM,(dY h).len,fun h0=>?_⟩;rcases h.2 with ⟨_,m⟩|⟨g,b,a,k,_,f,_⟩
 ·omega
 ·have d:A=some ⟨g,0,none⟩:=by injection k
  subst d;refine⟨g,0,a,rfl,f,fun j x hx=>?_⟩;have o:=(List.getElem?_eq_some_iff.1 hx).1;rw [dS,h.cellAt j oM];simp [zas,hx]
theorem info_step:(Tryz.prog.info? 253).map (fun i=>(i.zero,i.size,i.bytes))=some (some (.agg #[(0:Int),(0:Int),()]),3,40):=kM
def zbN:List (Stp × Value)->List Value
 |[]=>[]
 |(p,v) :: r=>.int .i64 p.parent :: .int .i64 (p.letter:Nat) :: v :: zbN r
theorem zhG (l m:List (Stp × Value)):zbN (l++m)=zbN l++zbN m:=by
 induction l with
 |nil=>rfl
 |cons x r ih=>obtain⟨p,v⟩:=x;simp [zbN,ih]
theorem zhm {l:List (Stp × Value)}  {p:Stp} (h:l[k]?=some (p,v)):(zbN l)[k*3]?=some (.int .i64 p.parent)∧(zbN l)[k*3+1]?=some (.int .i64 (p.letter:Nat))∧(zbN l)[k*3+2]?=some v:=by
 induction l generalizing k with
 |nil=>simp at h
 |cons a r ih =>
  cases k with
  |zero=>simp at h;subst h;exact⟨rfl,rfl,rfl⟩
  |succ k =>
   obtain⟨c,d⟩:=a;have:=ih (k:=k) (by simpa using h);have b:(k+1)*3=k*3+1+1+1:=oM;refine⟨?_,?_,?_⟩<;>rw [b]<;>simp only [zbN,List.getElem?_cons_succ]
   ·exact this.1
   ·exact this.2.1
   ·exact this.2.2
def Nodes (w:World) (sts:List (Stp × Value)):Prop:=∀ (k:Nat) (p:Stp) (v:Value),sts[k]?=some (p,v)->∃ A c,v=.slice A p.nodes.length c∧zap w A p.nodes.length p.nodes
theorem Nodes.frm {S:Nat->Prop}  {sts:List (Stp × Value)}(h:Nodes w sts)(hb:Frm S w w')(hS:∀ k,S k->∀ cs,w.heap[k]?≠some (.cells cs 3 (0,0))):Nodes w' sts:=fun k p v hk=>by
 obtain⟨A,c,e,hx⟩:=h k p v hk
 exact⟨A,c,e,hx.frm hb hS⟩
structure Sea (w0 w:World) (bs bg bt gs N cs:Nat) (fg:Value) (S:List Bool) (vst:Value) (sts:List (Stp × Value)):Prop where
 ext:Ext w0 w
 vs:Blk w bs 24 #[.slice (some gs) N cs]
 ds:w.ownsRow w0.heap.size 4 1 (.slice (some gs) N cs) N (zaA S)
 vg:∃ t,Blk w bg t #[fg]
 vt:Blk w bt 251 #[vst]
 dt:w.ownsRow w0.heap.size 253 3 vst sts.length (zbN sts)
 nd:Nodes w sts
 hs:w0.heap.size<=bs
 hg:w0.heap.size<=bg
 ht:w0.heap.size<=bt
 hgt:bg≠bt
 hgg:bg≠gs
 hgv:∀ b,vst.ownBlock=some b->b≠bg
section
variable {w0 w w':World} {bs bg bt gs N cs:Nat} {fg vst:Value} {S:List Bool} {sts:List (Stp × Value)}
theorem Sea.far {H:Nat}(h:Sea w0 w bs bg bt gs N cs fg S vst sts)(hb:Frm T w w')(hT:∀ k,T k->H<=k)(h1:bs<H)(h2:bg<H)(h3:bt<H)(h4:gs<H)(h5:∀ b,vst.ownBlock=some b->b<H)(h0:w0.heap.size<=H)(hn:Nodes w' sts):Sea w0 w' bs bg bt gs N cs fg S vst sts:=by
 obtain⟨t,a⟩:=h.vg;refine⟨h.ext.frm hb (fun k hk hS=>by have:=hT k hS;omega),h.vs.frm hb (fun hS=>by have:=hT _ hS;omega),zf h.ds hb (fun b hv hS=>?_),⟨t,a.frm hb (fun hS=>by have:=hT _ hS;omega)⟩,h.vt.frm hb (fun hS=>by have:=hT _ hS;omega),zf h.dt hb (fun b hv hS=>by have:=hT _ hS;have:=h5 b hv;omega),hn,h.hs,h.hg,h.ht,h.hgt,h.hgg,h.hgv⟩;have c:gs=b:=by simpa [Value.ownBlock] using hv
 have:=hT _ hS;omega
theorem Sea.ax (h:Sea w0 w bs bg bt gs N cs fg S vst sts)(hx:Ext w w'):Sea w0 w' bs bg bt gs N cs fg S vst sts:=by
 obtain⟨t,a⟩:=h.vg;exact⟨h.ext.trans hx,h.vs.ext hx,zg h.ds hx,⟨t,a.ext hx⟩,h.vt.ext hx,zg h.dt hx,h.nd.frm (S:=fun _=>False) hx (fun _ hk=>hk.elim),h.hs,h.hg,h.ht,h.hgt,h.hgg,h.hgv⟩
theorem Sea.gs_lt (h:Sea w0 w bs bg bt gs N cs fg S vst sts):w0.heap.size<=gs∧gs<w.heap.size:=h.ds.lt gs rfl
theorem Sea.gs_row (h:Sea w0 w bs bg bt gs N cs fg S vst sts):∃ cur,w.heap[gs]?=some (.cells cur 4 (0,0)):=by
 rcases h.ds.2 with ⟨a,_⟩|⟨g,b,cur,a,_,c,_⟩
 ·injection a with h1;cases h1
 ·have:gs=g:=by injection a with h1;injection h1 with h1;injection h1
  subst this;exact⟨cur,c⟩
theorem Sea.vst_row (h:Sea w0 w bs bg bt gs N cs fg S vst sts) (hb:vst.ownBlock=some b):∃ cur,w.heap[b]?=some (.cells cur 253 (0,0)):=by
 rcases h.dt.2 with ⟨rfl,_⟩|⟨g,a,cur,rfl,_,d,_⟩
 ·simp [Value.ownBlock] at hb
 ·have c:g=b:=by simpa [Value.ownBlock] using hb
  subst c;exact⟨cur,d⟩
theorem Sea.mark (h:Sea w0 w bs bg bt gs N cs fg S vst sts) :Sea w0 (w.setCell ⟨gs,n,none⟩ (.bool true)) bs bg bt gs N cs fg (S.set n true) vst sts:=by
 obtain⟨t,j⟩:=h.vg;obtain⟨m,o⟩:=h.gs_row;have d:=dE w gs n (.bool true);have a:∀ {b:Nat} {t:TypeId} {cs:Array Value},w.heap[b]?=some (.cells cs t (0,0))->t≠4->b≠gs:=by
  rintro b t cs g p rfl;rw [o] at g;injection g with g
  injection g with _ h2
  exact p h2.symm
 have f:(zaA S).set n (.bool true)=zaA (S.set n true):=by simp [zaA,List.map_set]
 have c:=(h.ds.stored n (.bool true)).1;rw [f] at c;refine⟨h.ext.setCell h.gs_lt.1 _,h.vs.frm d (a h.vs dM),c,⟨t,j.frm d h.hgg⟩,h.vt.frm d (a h.vt dM),zf h.dt d (fun b hv=>?_),h.nd.frm d (fun k hk cs hc=>?_),h.hs,h.hg,h.ht,h.hgt,h.hgg,h.hgv⟩
 ·obtain⟨l,i⟩:=h.vst_row hv;exact a i dM
 ·exact a hc dM hk
theorem Sea.push {c':Nat} {A':Option Addr} {p:Stp}(h:Sea w0 w bs bg bt gs N cs fg S vst sts) (zjc:w'.ownsRow w0.heap.size 253 3 (.slice (some g) (sts.length+1) cap) (sts.length+1) (zbN sts++[.int .i64 p.parent,.int .i64 (p.letter:Nat),.slice A' l c']))
  (hg:w.grownBy w' vst.ownBlock) (hat:vst.ownBlock=some g∨g=w.heap.size+1) (hl:l=p.nodes.length) (hA:zap w A' l p.nodes) :
  Hid (w'.cell? bt=some vst)∧w'.frozen? bt=false∧Sea w0 (w'.setCell bt (.slice (some g) (sts.length+1) cap)) bs bg bt gs N cs fg S (.slice (some g) (sts.length+1) cap) (sts++[(p,.slice A' l c')]):=by
 obtain⟨t,x⟩:=h.vg;have o:=Frm.ae hg;have a:∀ {b:Nat} {t:TypeId} {cs:Array Value},w.heap[b]?=some (.cells cs t (0,0))->t≠253->¬ (vst.ownBlock=some b):=by
  intro b t cs c H d;obtain⟨f,F⟩:=h.vst_row d;rw [F] at c;injection c with c
  injection c with _ h2
  exact H h2.symm
 obtain⟨f,r⟩:=h.gs_row;have n:Blk w' bt 251 #[vst]:=h.vt.frm o (a h.vt dM);have z:=h.vs.frm o (a h.vs dM);have D:=zf h.ds o (fun b d=>by
  have c:gs=b:=by simpa [Value.ownBlock] using d
  subst c;exact a r dM)
 have y:=x.frm o (fun d=>h.hgv _ d rfl);have G:=h.nd.frm o (fun k hk cs hc=>a hc dM hk);have B:=hA.frm o (fun k hk cs hc=>a hc dM hk);have u:w'.heap[gs]?=some (.cells f 4 (0,0)):=(o.block gs h.gs_lt.2 (a r dM)).trans r;have M:Ext w0 w':=h.ext.frm o (fun k hk d=>by have:=(h.dt.lt k d).1;omega);have s:g≠bg:=by
  rcases hat with i|i
  ·exact h.hgv g i
  ·have:=x.lt;omega
 have q:∃ f,w'.heap[g]?=some (.cells f 253 (0,0)):=by
  rcases zjc.2 with ⟨d,_⟩|⟨L,I,f,d,_,F,_⟩
  ·injection d with i;cases i
  ·have:g=L:=by injection d with i;injection i with i;injection i
   subst this;exact⟨f,F⟩
 obtain⟨J,q⟩:=q;have j:=dE w' bt 0 (.slice (some g) (sts.length+1) cap);have m:∀ {b:Nat} {t:TypeId} {cs:Array Value},w'.heap[b]?=some (.cells cs t (0,0))->t≠251->b≠bt:=by
  rintro b t cs c H rfl;unfold Blk at n;rw [n] at c;injection c with c
  injection c with _ h2
  exact H h2.symm
 have E:=zf zjc j (fun b d=>by
  have c:g=b:=by simpa [Value.ownBlock] using d
  subst c;exact m q dM)
 have v:=G.frm j (fun k hk cs hc=>m hc dM hk);have C:=B.frm j (fun k hk cs hc=>m hc dM hk);refine⟨n.cell 0,n.frozen 0,M.setCell h.ht _,z.frm j (m z dM),zf D j (fun b d=>by
  have c:gs=b:=by simpa [Value.ownBlock] using d
  subst c;exact m u dM),⟨t,y.frm j h.hgt⟩,by simpa using n.ab 0 _,?_,?_,h.hs,h.hg,h.ht,h.hgt,h.hgg,fun b d=>?_⟩
 ·rw [zhG];simpa [zbN] using E
 ·intro k p' v' hk;rcases eN k sts.length with i|i|i
  ·rw [dK i] at hk;exact v k p' v' hk
  ·rw [dP oM,i,eW] at hk;have:=Option.some.inj hk;injection this with e1 e2
   subst e1;subst e2;subst hl;exact⟨A',c',rfl,C⟩
  ·rw [dZ (by simp;omega)] at hk;cases hk
 ·have c:g=b:=by simpa [Value.ownBlock] using d
  subst c;exact s
end
def RetVisit (w0 w:World) (bs bg bt gs N cs:Nat) (fg:Value) (S:List Bool) (sts:List (Stp × Value)) (goal:Nat->Bool) (parent:Int) (letter:Nat) (ns:List Nat) (e:Ending) (w':World):Prop:=
 e=.returned (.bool ((vis S ns).2.any goal))∧Ext w0 w'∧w.heap.size<=w'.heap.size ∧
  ∃ (vst:Value) (sts':List (Stp × Value)),Sea w0 w' bs bg bt gs N cs fg (vis S ns).1 vst sts' ∧
   (((vis S ns).2=[]∧sts'=sts)∨((vis S ns).2≠[]∧∃ v,sts'=sts++[(⟨parent,letter,(vis S ns).2⟩,v)]))
theorem vis_take (h:ns[k]?=some n):vis S (ns.take (k+1))=visN (vis S (ns.take k)) n:=by
 rw [dH,h];exact vis_snoc _ _ _
theorem Frm.grown_ {row:Option Nat}(h:Frm T w W)(hg:W.grownBy W' row)(hr:∀ k,row=some k->w.heap.size<=k):Frm T w W':=
 ⟨hg.os.trans h.os,hg.tape.trans h.tape,hg.output.trans h.output,dJ h.size hg.size,fun k hk hn=>(hg.block k (eH hk h.size) (fun e=>by have:=hr k e.symm;omega)).trans (h.block k hk hn)⟩
theorem any_snoc {l:List Nat}  {p:Nat->Bool}:(l++[n]).any p=(l.any p || p n):=sM
theorem zhp {bs bg bt gs cs:Nat}  {goal:Nat->Bool}  {vst:Value} {sts:List (Stp × Value)}  {letter:Nat} {parent:Int} 
  (h:Sea w0 w bs bg bt gs N cs (.func (.func kg) #[] capg) S vst sts) (hA:zap w A m ns) (hN:∀ n∈ns,n<N) (hm:m<=1099511627776) (hst:sts.length<=1073741824)
  (hin:∀ args W,(callFunc kg args).run Tryz.prog W=.ok (.enter kg args) W) (hgoal:∀ W,Ext w0 W->∀ n,n<N->Calls Tryz.prog kg (#[.int .i64 (n:Nat)]++capg) W fun e W'=>e=.returned (.bool (goal n))∧Ext W W') :
  Calls Tryz.prog 239 #[parent,letter,.slice A m c,.pointer (some bs),.pointer (some bg),.pointer (some bt)] w (RetVisit w0 w bs bg bt gs N cs (.func (.func kg) #[] capg) S sts goal parent letter ns):=by
 have ax:=za (show S.length=N by have:=h.ds.1;rw [zfH] at this;omega);have ah:=za hA.1;have ad:=za hN;have s:=za hgoal;have X:=h.vs.lt;have G:bg<w.heap.size:=by obtain⟨t,hh⟩:=h.vg;exact hh.lt
 have h3:=h.vt.lt;have h4:=h.gs_lt;have h5:=za (fun b (hb:vst.ownBlock=some b)=>(h.dt.lt b hb).2);have h0:=h.ext.size;have B:=za (show ∀ k,k=gs->∀ cs,w.heap[k]?≠some (.cells cs 3 (0,0)) by
  rintro k rfl ar J;obtain⟨au,hh⟩:=h.gs_row;rw [hh] at J;injection J with J
  injection J with _ G
  exact absurd G dM)
 have Z:=za h.nd;clear hN hgoal
 go_enter Tryz.func239,Tryz.ntmps239
 go_wp2_with fail
 go_loopw [10,11,16] (fun v q i wr=>∃ k:Nat,k<=m∧i=.int .i64 k∧q=.bool ((vis S (ns.take k)).2.any goal)∧wr.ownsRow w.heap.size 3 1 v (vis S (ns.take k)).2.length (zas (vis S (ns.take k)).2)∧(vis S (ns.take k)).2.length<=k ∧
   Sea w0 wr bs bg bt gs N cs (.func (.func kg) #[] capg) (vis S (ns.take k)).1 vst sts∧Frm (fun b=>b=gs) w wr) (fun _ _ i _=>m - (intOf i).toNat)
 case atStart=>exact⟨0,dD _,rfl,rfl,World.ownsRow_nil _ _ _ _,dD _,h,Frm.refl _ _⟩
 case round =>
  clear h;obtain⟨k,Y,rfl,rfl,f,y,h,z⟩:=hrel;have C:=za (show (vis S (ns.take k)).1.length=N by have:=h.ds.1;rw [zfH] at this;omega)
  by_cases hlt:k<m
  ·obtain⟨g,o,n,rfl,hx,J⟩:=(hA.frm z B.out).at_ hlt;have ag:=ad.out n (cX hx.out);have U:=za (vis_take (S:=S) hx.out);generalize vis S (ns.take k)=st at *;obtain⟨T,l⟩:=st;simp only at f y h C;obtain⟨V,O⟩:∃ V,Hid (T[n]?=some V):=⟨_,dC (oH C.out)⟩;have Q:=za (show T.getD n true=V by rw [dI,O.out];rfl);have cS:=h.vs.cell;have cD:wr.cell? ⟨gs,n,none⟩=some (.bool V):=by rw [h.ds.cellAt n oM];simp [zaA,O.out]
   have fD:=h.ds.frozenAt n;cases V
   ·have a:=za (U.out.trans (show visN (T,l) n=(T.set n true,l++[n]) by unfold visN;rw [if_neg (by rw [Q.out];decide)]));have af:=h.mark (n:=n);have L:Frm (fun b=>b=gs) w (wr.setCell ⟨gs,n,none⟩ (.bool true)):=z.cell rfl _;have am:=h4.2;have j:=zf f (dE wr gs n (.bool true)) (fun b hv hS=>by have:=(f.lt b hv).1;omega);have ay:∃ tg,Blk wr bg tg #[.func (.func kg) #[] capg]:=h.vg;cases hfb:l.any goal
    all_goals
     have F:=za hfb;clear hfb;go_upto_region 8 with fail
     generalize wr.setCell ⟨gs,n,none⟩ (.bool true)=w2 at *;go_wp2_with (at_builtin;refine zar w _ rfl _ _ _ rfl 3 _ 1 8 Tryz.underlying74 zae rfl dM u10 l.length (zas l) _ _ rfl rfl L.size j rfl (by simp [Value.oneCell']) lM oM ?_;intro g5 cap5 w3 zjn hg3 hat3 hlt3;have D:Frm (fun b=>b=gs) w w3:=L.grown_ hg3 (fun k Y=>(j.lt k Y).1);have d:=af.far (Frm.ae hg3) (fun k Y=>(j.lt k Y).1) X G h3 h4.2 h5.out h0 (Z.out.frm D B.out);obtain⟨tg,I⟩:=d.vg;have aq:=I.cell)
    ·refine (s.out w3 d.ext n ag).mono (mQ fun w4 E=>?_);go_wp2_with fail
     go_roundw
     case rel=>exact⟨k+1,oM,gM,by rw [a.out,any_snoc,F.out];rfl,by rw [a.out];simpa [zas] using zg zjn E,by rw [a.out];simp;omega,by rw [a.out];exact d.ax E,D.ext E⟩
     case measure=>simp [intOf];omega
    ·go_roundw
     case rel=>exact⟨k+1,oM,gM,by rw [a.out,any_snoc,F.out];rfl,by rw [a.out];simpa [zas] using zjn,by rw [a.out];simp;omega,by rw [a.out];exact d,D⟩
     case measure=>simp [intOf];omega
   ·have a:=za (U.out.trans (show visN (T,l) n=(T,l) by unfold visN;rw [if_pos Q.out]));go_wp2_with fail
    go_roundw
    case rel=>exact⟨k+1,oM,gM,by rw [a.out],by rw [a.out];exact f,by rw [a.out];exact Nat.le_succ_of_le y,by rw [a.out];exact h,z⟩
    case measure=>simp [intOf];omega
  ·obtain rfl:k=m:=oM;have R:ns.take k=ns:=dG (oH ah.out);rw [R] at f y h ⊢;have ai:=z.size;clear R C;obtain⟨A',c',rfl⟩:=zi f;have H:=zap.own f;have u:=za (show ∀ W vst' sts',Sea w0 W bs bg bt gs N cs (.func (.func kg) #[] capg) (vis S ns).1 vst' sts'->w.heap.size<=W.heap.size->(((vis S ns).2=[]∧sts'=sts)∨((vis S ns).2≠[]∧∃ v,sts'=sts++[(⟨parent,letter,(vis S ns).2⟩,v)]))->RetVisit w0 w bs bg bt gs N cs (.func (.func kg) #[] capg) S sts goal parent letter ns (.returned (.bool ((vis S ns).2.any goal))) W from fun W vst' sts' X G h3=>⟨rfl,X.ext,G,vst',sts',X,h3⟩);clear s hin;generalize vis S ns=st at *;obtain⟨T,l⟩:=st;simp only at f y h H u ⊢;generalize l.any goal=aa at *;cases hfr0:l with
   |nil =>
    subst hfr0;go_wp2_with fail
    go_ret;exact u.out _ _ _ h ai (Or.inl sM)
   |cons x r =>
    have al:0<l.length:=by rw [hfr0];simp
    have M:=za (show l≠[] by rw [hfr0];simp);rw [← hfr0];clear hfr0;have cT:=h.vt.cell;go_wp2_with (at_builtin;refine zar w0 wr rfl _ _ _ rfl 253 _ 3 40 Tryz.underlying251 info_step rfl dM vst sts.length (zbN sts) _ _ rfl rfl h.ext.size h.dt rfl (by simp [Value.oneCell']) lM oM ?_;intro g5 cap5 w3 zjn hg3 hat3 hlt3;obtain⟨q1,q2,q3⟩:=h.push (p:=⟨parent,letter,l⟩) zjn hg3 hat3 rfl H;have aA:=q1.out;have an:=hg3.size)
    go_ret;exact u.out _ _ _ q3 (by simp;omega) (Or.inr ⟨M.out,_,rfl⟩)
section
open Go.Lib Go.Sort
abbrev zhv (n:Int):Value:=.int .u8 n
set_option maxRecDepth 1000000 in
theorem rev_bytes (blk off cap:Nat) (d:Array Int) (w:World)(hH:Holds zhv w blk off d)(hsz:d.size<=9223372036854775807) :
  Calls Tryz.prog 262 #[.slice (some ⟨blk,off,none⟩) d.size cap] w fun e w'=>e=.returned (.tuple #[])∧∃ n,w'=putRow zhv (Sort.ahead w n) blk off d.reverse:=by
 have p:Tryz.prog.follows .mixedOrders=true:=kM
 go_enter Tryz.func262,Tryz.ntmps262
 go_wp2
 go_loopg [2,3] d.size (fun k s2 s3 wr=>∃ (i a:Nat) (j:Int) (b:Array Int) (n:Nat),s2=.int .i64 i∧s3=.int .i64 j∧((i:Int)<j->j=a∧a<d.size)∧(¬ (i:Int)<j->¬ i<a)∧a - i<=k ∧
  b.size=d.size∧wr=putRow zhv (Sort.ahead w n) blk off b∧reverseLoop i a b=reverseLoop 0 (d.size - 1) d)
 case atStart=>exact⟨0,d.size - 1,(d.size:Int) - 1,d,0,rfl,rfl,fun h=>⟨oM,oM⟩,fun h=>oM,oM,rfl,(putRow_self zhv w blk off d hH).symm,rfl⟩
 case round =>
  obtain⟨i,a,j,b,n,rfl,rfl,q,r,z,l,g,c⟩:=hrel
  by_cases hlt:(i:Int)<j
  ·obtain⟨rfl,t⟩:=q hlt;have o:i<a:=oM;have s:i<d.size:=oM;have f:Holds zhv wr blk off b:=by rw [g];exact holds_putRow zhv _ blk off d b (holds_ahead zhv w n blk off d hH) l
   obtain⟨u,x⟩:=f i oM;obtain⟨v,y⟩:=f a oM;have A:Aside (wr=putRow zhv (Sort.ahead w n) blk off b):=g;clear g f hH q r;go_wp2_with fail
   go_region_o
   go_wp2
   go_roundg (a - 1 - (i+1))
   case measure=>omega
   case rel =>
    rw [reverseLoop,if_pos o] at c;exact⟨i+1,a - 1,(a:Int) - 1,swp b i a,n+1,sM,rfl,fun h=>⟨oM,oM⟩,fun h=>oM,cY _,by rw [size_swp];exact l,
     swap_world zhv oM oM A.out (by first|rfl|simp [zhv,getElem!_pos,show a<b.size by omega]) (by first|rfl|simp [zhv,getElem!_pos,show i<b.size by omega]),c⟩
  ·have m:=r hlt;go_wp2
   go_end0
   refine⟨rfl,n,?_⟩;rw [reverseLoop,if_neg m] at c;rw [← Lib.reverseLoop_reverse,← c]
end
theorem zeh (hl:l<6) (w:World):Calls Tryz.prog 105 #[.int .i64 (l:Nat)] w fun e w'=>e=.returned (.int .u8 ((97+l:Nat):Nat))∧w=w':=by
 go_enter Tryz.func105,Tryz.ntmps105
 go_wp2;go_ret;exact⟨by rw [show (((97+l:Nat):Nat):Int)=97+(l:Int) by omega];rfl,rfl⟩
theorem rev_none (w:World):Calls Tryz.prog 262 #[()] w fun e w'=>e=.returned (.tuple #[])∧w'=w:=by
 go_enter Tryz.func262,Tryz.ntmps262
 go_wp2
 go_loopg [2,3] 0 (fun k s2 s3 wr=>s2=.int .i64 0∧s3=.int .i64 (-1)∧wr=w)
 case atStart=>exact⟨rfl,rfl,rfl⟩
 case round =>
  obtain⟨rfl,rfl,rfl⟩:=hrel;go_wp2
  go_end0
  exact⟨rfl,rfl⟩
theorem ziu:(Tryz.prog.info? 5).map (fun i=>(i.zero,i.size,i.bytes))=some (some (.int .u8 0),1,1):=kM
def lbs (o:List Nat):List Int:=o.map fun l=>((97+l:Nat):Int)
theorem lbs_reverse (o:List Nat):lbs o.reverse=(lbs o).reverse:=by simp [lbs]
def u8s (l:List Int):List Value:=l.map zhv
theorem Holds.own8 {l:List Int}(h:w.ownsRow base e 1 (.slice (some g) n cap) n (u8s l)):Sort.Holds zhv w g 0 l.toArray:=by
 intro j hj;have a:j<l.length:=by simpa using hj
 have b:=h.1;simp only [u8s,dO] at b;refine⟨?_,by rw [dS];exact h.frozenAt j⟩;rw [dS,h.cellAt j oM];simp [u8s,a]
theorem Ext.putRow {d:Array Int}(h:Ext w W)(hg:w.heap.size<=g):Ext w (Sort.putRow zhv (Sort.ahead W n) g off d):=by
 refine⟨h.os,h.tape,h.output,?_,fun k hk _=>?_⟩
 ·show w.heap.size<=(W.heap.modify g _).size;rw [Array.size_modify];exact h.size
 ·show (W.heap.modify g _)[k]?=_;rw [Array.getElem?_modify,if_neg oM];exact h.heap hk
theorem u8_row:Tryz.prog.underlying 22=some (.slice 5):=kM
theorem u8_und:Tryz.prog.underlying 5=some (.int .u8):=kM
theorem zhn:Tryz.prog.underlying 9=some .string:=kM
theorem Ext.put_some {d:Array Int}(h:Ext w W)(hg:w.heap.size<=g)(hw:∃ n,w'=Sort.putRow zhv (Sort.ahead W n) g off d):Ext w w':=by
 obtain⟨n,rfl⟩:=hw;exact h.putRow hg
theorem conv_rev {o:List Nat}(h:Sort.Holds zhv W g 0 (lbs o).toArray)(hw:∃ n,w'=Sort.putRow zhv (Sort.ahead W n) g 0 (lbs o).toArray.reverse) :
  (convert 22 9 (.slice (some g) o.length cap)).run Tryz.prog w'=.ok (.string (strOfNums (lbs o.reverse))) w':=by
 obtain⟨n,rfl⟩:=hw;have c:=Sort.holds_putRow zhv _ g 0 _ (lbs o).toArray.reverse (Sort.holds_ahead zhv W n g 0 _ h) sM;refine run_convert_bytes_arg (P:=Tryz.prog) _ 22 5 u8_row u8_und g 0 o.length cap (lbs o.reverse) (by simp [lbs]) (fun i hi=>?_) _ zhn;rw [(c i (by simpa [lbs] using hi)).1,lbs_reverse];have a:i<(lbs o).reverse.length:=by simpa [lbs] using hi
 have b:i<(lbs o).toArray.reverse.size:=by simpa [lbs] using hi
 rw [getElem!_pos (lbs o).toArray.reverse i b];simp [zhv,List.getD,dC a,-List.getElem?_reverse,-List.getElem_reverse]
theorem pathWord_any {sts:List (Stp × Value)} {ws:List (List Nat)}(h:w.ownsRow base 253 3 (.slice A n c) n (zbN sts))(hn:sts.length=n)(h0:0<n)(hsz:n<=1073741824)
  (hw:∀ (k:Nat) (p:Stp) (v:Value),sts[k]?=some (p,v)->(p.parent = -1∧ws.getD k []=[])∨∃ a:Nat,p.parent=(a:Int)∧a<k∧p.letter<6∧ws.getD k []=ws.getD a []++[p.letter]) :
  Calls Tryz.prog 240 #[.slice A n c] w fun e w'=>e=.returned (.string (strOfNums (lbs (ws.getD (n - 1) []))))∧Ext w w':=by
 have L:=za hw;have J:=za hn;obtain⟨g,rfl⟩:∃ g,A=some ⟨g,0,none⟩:=by
  rcases h.2 with ⟨_,U⟩|⟨g,cap,z,hv,_⟩
  ·omega
  ·exact⟨g,by injection hv⟩
 have T:=(h.lt g rfl).2;have m:=za (fun (k:Nat) (p:Stp) (v:Value) (D:sts[k]?=some (p,v))=>(show w.cell? ⟨g,k*3,none⟩=some (.int .i64 p.parent)∧w.cell? ⟨g,k*3+1,none⟩=some (.int .i64 (p.letter:Nat)) by
  have V:=(List.getElem?_eq_some_iff.1 D).1;obtain⟨M,O,_⟩:=zhm D;rw [h.cellAt _ oM,h.cellAt _ oM];exact⟨M,O⟩))
 clear hw hn h
 go_enter Tryz.func240,Tryz.ntmps240
 go_wp2
 go_loopw [3,4] (fun v i wr=>∃ (k:Nat) (o:List Nat),k<n∧i=.int .i64 k∧wr.ownsRow w.heap.size 5 1 v o.length (u8s (lbs o))∧Hid (ws.getD (n - 1) []=ws.getD k []++o.reverse)∧o.length+k<n∧Ext w wr)
  (fun _ i _=>(intOf i).toNat)
 case atStart=>exact⟨n - 1,[],oM,by first|go_num|(congr 1;omega),World.ownsRow_nil _ _ _ _,by simp [Hid],by simp;omega,cW _⟩
 case round =>
  obtain⟨k,o,D,rfl,j,b,Z,r⟩:=hrel;obtain⟨p,v,y⟩:∃ p v,sts[k]?=some (p,v):=⟨_,_,dC (oH J.out)⟩;obtain⟨F,G⟩:=m.out k p v y;have H:∀ W,Ext w W->W.cell? ⟨g,k*3,none⟩=some (.int .i64 p.parent):=fun W hW=>hW.aa F;have I:∀ W,Ext w W->W.cell? ⟨g,k*3+1,none⟩=some (.int .i64 (p.letter:Nat)):=fun W hW=>hW.aa G;obtain⟨ad,l,ns⟩:=p;dsimp only at H I;have X:(k:Int)<(n:Int):=oM;clear F G;rcases L.out k _ v y with ⟨d,f⟩|⟨a,d,S,s,f⟩
  ·dsimp only at d;subst d;have u:=za (show ws.getD (n - 1) []=o.reverse by rw [b.out,f];rfl);clear b f y;rcases j.2 with ⟨rfl,t⟩|⟨Q,cap,z,rfl,C,U,_⟩
   ·have Y:o=[]:=dU t;subst Y;have B:∀ W,(convert 22 9 (.slice none 0 0)).run Tryz.prog W=.ok (.string ByteArray.empty) W:=fun W=>run_convert_bytes_nil (P:=Tryz.prog) W 22 5 u8_row u8_und _ _ _ zhn;go_wp2_with (go_at_call 262;refine (rev_none _).mono ?_;rintro e w' ⟨rfl,rfl⟩)
    go_ret;exact⟨by rw [u.out];rfl,r⟩
   ·have x:=rev_bytes Q 0 cap (lbs o).toArray wr (Holds.own8 j) (by simp [lbs];omega);rw [show (lbs o).toArray.size=o.length by simp [lbs]] at x;have R:=za (Holds.own8 j);go_wp2_with (go_at_call 262;refine x.mono (mQ fun w' q=>?_);have B:=conv_rev (cap:=cap) R.out q;have hx:=Ext.put_some r C q;clear q)
    go_ret;exact⟨by rw [u.out];rfl,hx⟩
  ·dsimp only at d f s;subst d;have E:=za (show ws.getD (n - 1) []=ws.getD a []++(o++[l]).reverse by rw [b.out,f];simp);clear b f y;go_wp2_with (first
    |(go_at_call 105;refine (zeh s _).mono ?_;rintro e w' ⟨rfl,rfl⟩)
    |(at_builtin;refine zL w wr rfl (.tmp 19) (.tmp 26) _ rfl 5 _ 1 1 Tryz.underlying22 ziu rfl dM u3 _ _ _ _ rfl rfl r j rfl (zgg _) lM oM ?_;intro v' w1 hext1 zjl hg1 hat1))
   go_roundw
   case rel=>exact⟨a,o++[l],oM,rfl,by simpa [u8s,lbs] using zjl,E,by simp;omega,aM⟩
   case measure=>simp [intOf];omega
def zO (w:World) (d:Nat->Nat->List Nat) (start:List Nat) (goal:Nat->Bool) (L:List Nat) (e:Ending) (w':World):Prop:=
 Ext w w'∧((∃ v,e=.returned (.tuple #[.string (strOfNums (lbs v)),.bool true])∧Found d start goal L v)∨(e=.returned (.tuple #[ByteArray.empty,.bool false])∧Lost d start goal L))
theorem Sea.start {w1:World}  {fg:Value} (hx:Ext (w.alloc (.cells #[fg] t)) w1)(hsz:(w.alloc (.cells #[fg] t)).heap.size<w1.heap.size)(hg:Blk (w.alloc (.cells #[fg] t)) w.heap.size t #[fg]) (zjc:w1.ownsRow w.heap.size 4 1 (.slice (some ⟨w.heap.size+1,0,none⟩) N N) N (zaA (dN N false))) :
  Sea w ((w1.alloc (.cells #[.slice (some ⟨w.heap.size+1,0,none⟩) N N] 24)).alloc (.cells #[()] 251)) w1.heap.size w.heap.size (w1.heap.size+1) (w.heap.size+1) N N fg (dN N false) (.slice none 0 0) []:=by
 simp only [World.size_alloc] at hsz;have c:Ext w w1:=((cW w).alloc _).trans hx;have f:=dT w1 24 #[.slice (some ⟨w.heap.size+1,0,none⟩) N N];have d:=dT (w1.alloc (.cells #[.slice (some ⟨w.heap.size+1,0,none⟩) N N] 24)) 251 #[()];have a:Ext w1 ((w1.alloc (.cells #[.slice (some ⟨w.heap.size+1,0,none⟩) N N] 24)).alloc (.cells #[()] 251)):=((cW w1).alloc _).alloc _;refine⟨c.trans a,f.ext ((cW _).alloc _),zg zjc a,⟨t,hg.ext (hx.trans a)⟩,by simpa using d,World.ownsRow_nil _ _ _ _,fun k p v hk=>by simp at hk,oM,cY _,oM,oM,oM,fun b hb=>by simp [Value.ownBlock] at hb⟩
theorem sts_add {sts sts':List (Stp × Value)} {a:Int}  (h:(fr=[]∧sts'=sts)∨(fr≠[]∧∃ v,sts'=sts++[(⟨a,l,fr⟩,v)])):sts'.map Prod.fst=addS (sts.map Prod.fst) a l fr:=by
 rcases h with ⟨b,rfl⟩|⟨b,v,rfl⟩
 ·rw [addS,if_pos b]
 ·rw [addS,if_neg b];simp
theorem Bfs.letters {d:Nat->Nat->List Nat} {start:List Nat} {goal:Nat->Bool}    {st:List Stp} {ws:List (List Nat)} (h:Bfs d start goal L N S st ws i j):∀ (m k:Nat),k<=m->k<st.length->∀ l∈ws.getD k [],l∈L:=by
 intro m
 induction m with
 |zero =>
  intro k hk hlt l hl;obtain rfl:k=0:=oM;rw [h.zero _ (dC hlt)] at hl;cases hl
 |succ m ih =>
  intro k hk hlt l hl;rcases h.word k _ (dC hlt) with ⟨_,_,e⟩|⟨a,b,_,f,_,g,e⟩
  ·rw [e] at hl;cases hl
  ·rw [e] at hl;rcases List.mem_append.1 hl with c|c
   ·exact ih a oM oM l c
   ·rw [List.mem_singleton.1 c];exact cX g
theorem Bfs.words {d:Nat->Nat->List Nat} {start:List Nat} {goal:Nat->Bool}    {st:List Stp} {ws:List (List Nat)} (h:Bfs d start goal L N S st ws i j)(hL:Rise L) {a:Nat} (ha:a<st.length)(hl:l∈L) (k:Nat) (p:Stp)(hp:(st++[⟨a,l,fr⟩])[k]?=some p) :
  (p.parent = -1∧(ws++[ws.getD a []++[l]]).getD k []=[])∨∃ b:Nat,p.parent=(b:Int)∧b<k∧p.letter<6∧(ws++[ws.getD a []++[l]]).getD k []=(ws++[ws.getD a []++[l]]).getD b []++[p.letter]:=by
 rcases eN k st.length with f|f|f
 ·rw [dK f] at hp;rw [zeU _ (by rw [h.wl];exact f)];rcases h.word k p hp with ⟨_,g,m⟩|⟨b,c,g,m,_,n,o⟩
  ·exact Or.inl ⟨g,m⟩
  ·exact Or.inr ⟨b,g,m,hL.1 _ (cX n),by rw [zeU _ (by rw [h.wl];omega)];exact o⟩
 ·rw [f,dP (cY _),eW] at hp;obtain rfl:=Option.some.inj hp;refine Or.inr ⟨a,rfl,oM,hL.1 _ hl,?_⟩;rw [f,← h.wl,zgE,zeU _ (by rw [h.wl];exact ha)]
 ·rw [dZ (by simp;omega)] at hp;cases hp
theorem Frm.out {S:Nat->Prop} {a b c:World}(h:Frm T a b) (k:Frm S b c)(hS:∀ x,S x->T x):Frm T a c:=h.trans (k.mono fun x _ hx=>hS x hx)
set_option maxHeartbeats 16000000 in
theorem zeT {kn cL:Nat} {AL:Option Addr} {capn:Array Value} {goal:Nat->Bool} {d:Nat->Nat->List Nat} {start:List Nat} 
  (hA:zap w A m start) (hstart:∀ n∈start,n<N) (hm:m<=1099511627776) (hL:zap w AL q L) (hrise:Rise L) (hN:N<=16777216) (hD:D<=4096)
  (hinn:∀ args W,(callFunc kn args).run Tryz.prog W=.ok (.enter kn args) W) (hin:∀ args W,(callFunc kg args).run Tryz.prog W=.ok (.enter kg args) W)
  (hgoal:∀ W,Ext w W->∀ n,n<N->Calls Tryz.prog kg (#[.int .i64 (n:Nat)]++capg) W fun e W'=>e=.returned (.bool (goal n))∧Ext W W')
  (hd:∀ n l,n<N->l∈L->(d n l).length<=D∧∀ x∈d n l,x<N)
  (hnext:∀ W,Ext w W->∀ n l,n<N->l∈L->∀ (base:Nat) (A:Option Addr) (m c:Nat) (xs:List Nat),w.heap.size<=base->base<=W.heap.size->m<=1099511627776->W.ownsRow base 3 1 (.slice A m c) m (zas xs) ->
   Calls Tryz.prog kn (#[.int .i64 (n:Nat),.int .i64 (l:Nat),.slice A m c]++capn) W fun e W'=>∃ A' c',e=.returned (.slice A' (xs++d n l).length c')∧W'.ownsRow base 3 1 (.slice A' (xs++d n l).length c') (xs++d n l).length (zas (xs++d n l))∧Frm (fun k=>(Value.slice A m c).ownBlock=some k) W W') :
  Calls Tryz.prog 201 #[.int .i64 (N:Nat),.slice A m c,.slice AL q cL,.func (.func kn) #[] capn,.func (.func kg) #[] capg] w (zO w d start goal L):=by
 have HA:=za hA;have o:=za hstart;have M:=za hgoal;have al:=za hnext;have Hd:=za hd;have bF:q<=9223372036854775807:=hL.2.1;clear hA hstart hgoal hnext hd
 go_enter Tryz.func201,Tryz.ntmps201
 have aI:Ext w (w.alloc (.cells #[.func (.func kg) #[] capg] 76)):=(cW w).alloc _;have z:=za (dT w 76 #[.func (.func kg) #[] capg]);go_upto_region 4 with (at_make;refine zbD w _ rfl _ _ 24 rfl 4 _ 1 1 Tryz.underlying24 zbf _ _ N rfl rfl aI oM lM ?_;intro w1 hext1 zjl hx1 hsz1)
 have aO:w1.ownsRow w.heap.size 4 1 (.slice (some ⟨w.heap.size+1,0,none⟩) N N) N (zaA (dN N false)):=by
  have h:=zjl;rw [World.size_alloc] at h;simpa [zaA,Value.cells,toList_madeCells_one] using h
 have ah:=Sea.start hx1 hsz1 z.out aO;obtain⟨w2,U0⟩:∃ x,Hid ((w1.alloc (.cells #[.slice (some ⟨w.heap.size+1,0,none⟩) N N] 24)).alloc (.cells #[()] 251)=x):=⟨_,za rfl⟩;have aJ:Ext w w2:=((hext1.alloc _).alloc _).trans (Ext.eq_ U0.out);clear zjl aO hx1 hsz1 z hext1 aI;generalize w1.heap.size+1=bt at *;generalize w1.heap.size=bs at *;rw [U0.out] at *;have au:=zgu (dN N false) start (fun n Q=>by have:=o.out n Q;simpa using this);cases hg:(vis (dN N false) start).2.any goal
 ·have Hg:=za hg;have G:=za (Bfs.begin_ (d:=d) (L:=L) (goal:=goal) o.out (fun x J=>by
   cases z:goal x
   ·rfl
   ·rw [List.any_eq_true.2 ⟨x,J,z⟩] at hg;cases hg))
  have hC:=za ((Cnt.nil N).add (-1) 0 start);clear hg au;go_wp2_with (go_at_call 239;refine (zhp (letter:=0) (parent := -1) ah (HA.out.ext aJ) o.out hm sM hin M.out).mono ?_;rintro e w3 ⟨rfl,av,aG,F,a,X,f⟩;rw [Hg.out];have Y:=za (sts_add f);clear f)
  go_loopw [15,17,18,20] (fun i l r x wr=>∃ (k:Nat) (S:List Bool) (F:Value) (a:List (Stp × Value)) (ws:List (List Nat)),i=.int .i64 k∧k<=a.length∧a.length<=N∧Sea w wr bs w.heap.size bt (w.heap.size+1) N N (.func (.func kg) #[] capg) S F a∧Hid (Bfs d start goal L N S (a.map Prod.fst) ws k 0)∧Hid (Cnt S (a.map Prod.fst)))
   (fun i _ _ _ _=>N+1 - (intOf i).toNat)
  case atStart =>
   simp only [jG] at Y;have H:=G.out;have O:=hC.out;rw [← Y.out] at H O;exact⟨0,_,F,a,_,rfl,dD _,by have:=O.steps H.some_;rw [H.len] at this;simpa using this,X,za H,za O⟩
  case round =>
   clear X Y G hC av aG;clear F a;obtain⟨k,S,F,a,ws,rfl,hk,af,E,G,hC⟩:=hrel;obtain⟨Av,cv,rfl⟩:=zi E.dt;have cT:=E.vt.cell 0
   by_cases hlt:k<a.length
   ·have am:((k:Int)<(a.length:Int)):=oM;go_wp2
    go_loopw [17,18,20,35] (fun _ _ _ i2 wi=>∃ (j:Nat) (S:List Bool) (F:Value) (a:List (Stp × Value)) (ws:List (List Nat)),i2=.int .i64 j∧j<=q∧k<a.length∧a.length<=N∧Sea w wi bs w.heap.size bt (w.heap.size+1) N N (.func (.func kg) #[] capg) S F a∧Hid (Bfs d start goal L N S (a.map Prod.fst) ws k j)∧Hid (Cnt S (a.map Prod.fst)))
     (fun _ _ _ i2 _=>q - (intOf i2).toNat)
    case atStart=>exact⟨0,S,_,a,ws,rfl,dD _,hlt,af,E,G,hC⟩
    case round =>
     clear E G hC cT hlt am hk af;rename World=>wi
     obtain⟨j,S,F,a,ws,rfl,hj,hk,af,E,G,hC⟩:=hrel
     by_cases hjq:j<q
     ·obtain⟨gl,ol,l,rfl,aw,aD⟩:=hL.at_ hjq;have cL:wi.cell? ⟨gl,ol+j,none⟩=some (.int .i64 (l:Nat)):=E.ext.aa aD;have R:=za (cX aw.out);obtain⟨⟨⟨pp,pl,I⟩,vk⟩,ae⟩:∃ x,Hid (a[k]?=some x):=⟨_,dC hk⟩;obtain⟨Ak,ck,rfl,T⟩:=E.nd k _ vk ae.out;dsimp only at T ae;have V:=za (show (a.map Prod.fst)[k]?=some ⟨pp,pl,I⟩ by rw [dQ,ae.out];rfl);have aq:=List.length_pos_iff.2 (G.out.some_ k _ V.out);have aW:I.length<=N:=by have:=hC.out.nodes V.out;rw [G.out.len] at this;exact this
      have s:=za (G.out.small k _ V.out);dsimp only at aq s;have cV:wi.cell? bt=some F:=E.vt.cell 0;obtain⟨Av,cv,rfl⟩:=zi E.dt;obtain⟨gv,rfl⟩:∃ gv,Av=some ⟨gv,0,none⟩:=by
       rcases E.dt.2 with ⟨_,hh⟩|⟨g,bq,bu,hv,_⟩
       ·omega
       ·exact⟨g,by injection hv⟩
      obtain⟨mk,ap⟩:∃ mk,Hid (mk=I.length):=⟨_,rfl⟩;have cK:wi.cell? ⟨gv,k*3+2,none⟩=some (.slice Ak mk ck):=by
       rw [E.dt.cellAt _ oM,ap.out];exact (zhm ae.out).2.2
      rw [← ap.out] at T aq aW;obtain⟨gk,ok,_,rfl,_,_⟩:=T.at_ aq;have aQ:=za T;have h1:=E.vs.lt;have h2:w.heap.size<wi.heap.size:=by obtain⟨t,hh⟩:=E.vg;exact hh.lt
      have h3:=E.vt.lt;have h4:=E.gs_lt.2;have h0:=E.ext.size;have az:=za (show ∀ b,wi.heap.size<=b->∀ cs,wi.heap[b]?≠some (.cells cs 3 (0,0)) from fun b hb cs hc=>by
       have:=(Array.getElem?_eq_some_iff.1 hc).1;omega)
      have bG:=(E.dt.lt gv rfl).2;have ay:=za (fun W (hW:Frm (fun b=>wi.heap.size<=b) wi W)=>E.far hW (fun _ h=>h) h1 h2 h3 h4 (fun b hb=>by have:gv=b:=(by simpa [Value.ownBlock] using hb);omega) h0 (E.nd.frm hW az.out));have bD:(k:Int)<(a.length:Int):=oM;have bC:(j:Int)<(q:Int):=oM;clear T aD E h1 h3 h4;go_wp2_with fail
      go_loopw [18,20,45] (fun v _ i3 wr=>∃ i:Nat,i3=.int .i64 i∧i<=mk∧wr.ownsRow wi.heap.size 3 1 v (reach d l (I.take i)).length (zas (reach d l (I.take i)))∧Frm (fun b=>wi.heap.size<=b) wi wr) (fun _ _ i3 _=>mk - (intOf i3).toNat)
      case atStart=>exact⟨0,rfl,dD _,World.ownsRow_nil _ _ _ _,Frm.refl _ _⟩
      case round =>
       obtain⟨i,rfl,hi,aa,ad⟩:=hrel;have aC:=za (ay.out wr ad);have a0:=ad.size;have aZ:(reach d l (I.take i)).length<=1099511627776 - 4096:=by
        have e1:=reach_len (d:=d) (l:=l) (D:=D) (ns:=I.take i) (fun n Q=>(Hd.out n l (s.out n (List.mem_of_mem_take Q)) R.out).1);have e2:=eK (show (I.take i).length<=16777216 by rw [List.length_take];omega) hD;omega
       obtain⟨A0,c0,rfl⟩:=zi aa;clear cL cV cK
       by_cases hil:i<mk
       ·obtain⟨g',o',n,aB,Q,cN⟩:=(aQ.out.frm ad az.out).at_ hil;obtain⟨rfl,rfl⟩:gk=g'∧ok=o':=by injection aB with e;injection e with e1 e2;exact⟨e1,e2⟩
        have aF:=s.out n (cX Q.out);have aX:=za (al.out wr aC.out.ext n l aF R.out wi.heap.size A0 _ c0 _ h0 a0 oM aa);clear aB;go_wp2_with fail
        refine aX.out.mono ?_;rintro e w4 ⟨A',c',rfl,U,aV⟩;have aE:=za (fun b (hb:(Value.slice A0 (reach d l (I.take i)).length c0).ownBlock=some b)=>(aa.lt b hb).1);go_wp2_with fail
        go_roundw
        case rel=>exact⟨i+1,gM,oM,by rw [reach_take Q.out];rw [dL] at U ⊢;exact U,ad.out aV aE.out⟩
        case measure=>simp [intOf];omega
       ·obtain rfl:i=mk:=oM;have a1:I.take i=I:=dG (oH ap.out);rw [a1] at aa aZ ⊢;have ar:=za (fun x (J:x∈reach d l I)=>by
         obtain⟨n,Q,J⟩:=zgQ.1 J;exact (Hd.out n l (s.out n Q) R.out).2 x J)
        have ai:=za (zhp (letter:=l) (parent:=(k:Int)) (c:=c0) aC.out (zap.own aa) ar.out oM oM hin M.out);cases hg:(vis S (reach d l I)).2.any goal
        ·have Hg:=za hg;have H:=za (G.out.step hrise V.out aw.out (fun x=>zgQ) ar.out (fun x J=>by
          cases z:goal x
          ·rfl
          ·rw [List.any_eq_true.2 ⟨x,J,z⟩] at hg;cases hg))
         have O:=za (hC.out.add (k:Int) l (reach d l I));clear hg;go_wp2_with fail
         refine ai.out.mono ?_;rintro e w4 ⟨rfl,aK,aH,aj,C,B,f⟩;rw [Hg.out];have Y:=za (sts_add f);have bh:a.length<=C.length:=by
          rcases f with ⟨_,rfl⟩|⟨_,v,rfl⟩<;>simp
         rw [← Y.out] at H O;go_wp2_with fail
         go_roundw
         case rel=>exact⟨j+1,_,aj,C,_,gM,oM,oM,(by have:=O.out.steps H.out.some_;rw [H.out.len] at this;simpa using this),B,H,O⟩
         case measure=>simp [intOf];omega
        ·have Hg:=za hg;obtain⟨x,J,z⟩:=List.any_eq_true.1 hg;have ag:=((zgu S (reach d l I) (fun n Q=>by rw [G.out.len];exact ar.out n Q)).2.2 x).1 J;obtain⟨n,Q,aL⟩:=zgQ.1 ag.1;have hF:=za (show Found d start goal L (ws.getD k []++[l]) from ⟨fun m hm=>(by
          rcases List.mem_append.1 hm with h|h
          ·exact G.out.letters k k (cY _) (by simpa using hk) m h
          ·rw [List.mem_singleton.1 h];exact R.out),⟨x,(G.out.goes k _ V.out n Q).snoc aL,z⟩,fun u hu hlt y hy=>G.out.found hrise (by simpa using hk) aw.out hu hlt hy⟩)
         clear hg z ag aL;go_wp2_with fail
         refine ai.out.mono ?_;rintro e w4 ⟨rfl,aK,aH,aj,C,B,f⟩;rw [Hg.out];obtain⟨_,v4,Z⟩:(vis S (reach d l I)).2≠[]∧∃ v,C=a++[(⟨(k:Int),l,(vis S (reach d l I)).2⟩,v)]:=by
          rcases f with ⟨h,_⟩|h
          ·rw [h] at J;cases J
          ·exact h
         have an:C.length=a.length+1:=by rw [Z];simp
         obtain⟨A4,c4,rfl⟩:=zi B.dt;have bp:=B.vt.cell 0;have aY:=za (show Calls Tryz.prog 240 #[.slice A4 C.length c4] w4 fun e w'=>e=.returned (.string (strOfNums (lbs (ws.getD k []++[l]))))∧Ext w4 w' by
          have aN:=pathWord_any (ws:=ws++[ws.getD k []++[l]]) B.dt rfl oM oM (fun i p v hi=>by
           have hm:(C.map Prod.fst)[i]?=some p:=by rw [dQ,hi];rfl
           rw [Z,eP] at hm;exact G.out.words hrise (by simpa using hk) R.out i p hm)
          rw [an,fM,show a.length=ws.length by have:=G.out.wl;simpa using this.symm,zgE] at aN;rw [an,show a.length=ws.length by have:=G.out.wl;simpa using this.symm];exact aN)
         clear J f Z an;go_wp2_with fail
         refine aY.out.mono (mQ fun w5 a3=>?_);go_wp2_with fail
         go_ret2;exact⟨aK.trans a3,Or.inl ⟨_,rfl,hF.out⟩⟩
     ·obtain rfl:j=q:=oM;have bE:=hL.1;have aT:=za (G.out.row oM);go_wp2;go_roundw
      case rel=>exact⟨k+1,S,F,a,ws,gM,oM,af,E,aT,hC⟩
      case measure=>simp [intOf];omega
   ·obtain rfl:k=a.length:=oM;have ao:=za (show Lost d start goal L from fun v hv x J=>G.out.none sM hv J);have ag:=E.ext;go_wp2;go_ret2;exact⟨ag,Or.inr ⟨rfl,ao.out⟩⟩
 ·have Hg:=za hg;obtain⟨x,J,z⟩:=List.any_eq_true.1 hg;have hF:=za (show Found d start goal L [] from ⟨fun l hl=>(by cases hl),⟨x,.nil ((au.2.2 x).1 J).1,z⟩,fun u _ hu=>by rw [zfn] at hu;omega⟩);clear hg au;go_wp2_with (go_at_call 239;refine (zhp (letter:=0) (parent := -1) ah (HA.out.ext aJ) o.out hm sM hin M.out).mono ?_;rintro e w' ⟨rfl,av,_⟩;rw [Hg.out])
  go_ret2;exact⟨av,Or.inl ⟨[],rfl,hF.out⟩⟩
end Go.Proofs.YtfcjhpodichpjaaGreatDoor
