/- Plain: a sea -/
import Derived.Test.YtcfchopfijalpaaGreatDoorV01
import Derived.StillTailTactics
set_option maxHeartbeats 4000000
set_option maxRecDepth 100000
namespace Go.Proofs.YtcfchopfijalpaaGreatDoor
open Go Go.RowKit
open Bool renaming and_eq_true->eG,and_false->jT,eq_false_iff->fQ,false_eq_true->jL,or_eq_true->gO
open Ext renaming drew->fW,refl->dB,trans->e8
open Int renaming toNat_natCast->fC
open List renaming all_eq_true->fF,eq_nil_of_length_eq_zero->eK,flatMap_cons->j9,foldl_cons->iZ,getD_eq_getElem?_getD->eF,getElem?_append_left->eI,getElem?_append_right->eM,getElem?_eq_getElem->dC,getElem?_eq_none->eP,getElem?_map->eL,getElem?_of_mem->eT,getElem?_range->gB,getElem_mem->gQ,length_append->eO,length_cons->gS,length_singleton->eZ,map_append->fB,map_cons->gJ,mem_append->iA,mem_cons_of_mem->eV,mem_of_getElem?->eB,mem_range->jG,mem_singleton->fS,range->fE,replicate->eN,take_add_one->eH,take_length->fI
open Nat renaming add_assoc->fV,add_mul->jJ,add_sub_cancel->iD,add_zero->iI,div_div_eq_div_mul->jP,div_eq_of_lt->jH,eq_of_testBit_eq->gI,le_refl->eA,le_trans->eJ,lt_of_lt_of_le->eU,lt_or_ge->fK,lt_pow_two_of_testBit->j0,lt_trichotomy->fY,mul_assoc->jD,mul_comm->gF,mul_le_mul->fX,mul_le_mul_right->jC,mul_one->jK,pow_le_pow_right->eW,sub_self->fO,testBit_and->gP,testBit_succ->jI,testBit_two_pow_mul_add->iV,two_pow_pos->j4,zero_add->eS,zero_le->eD,zero_mul->jY,zero_testBit->iW
open Option renaming getD_some->gE,map_some->iK,toList_some->e7
variable {A:Option Addr} {S:List Bool} {W W1 w w':World} {a b base c g hi i k l lo n o q t x:Nat} {cs:Array Value} {es:List Edg} {ns start v xs:List Nat} {r:Value} {rows:List Value} {s:Sys} {ss:List Sys} {st:Int}
def zcn (w:List Nat):Nat:=w.foldl (fun v l=>v*7+(l+1)) 0
theorem zav (w:List Nat) (l:Nat):zcn (w++[l])=zcn w*7+(l+1):=by simp [zcn]
theorem zfA:zcn []=0:=rfl
theorem zT {α:Type} (w:List α):w=[]∨∃ u l,w=u++[l]:=by
 rcases List.eq_nil_or_concat w with h|⟨u,l,h⟩
 ·exact Or.inl h
 ·exact Or.inr ⟨u,l,by simpa using h⟩
theorem wval_inj:∀ (n:Nat) (u v:List Nat),u.length<=n->(∀ l∈u,l<6)->(∀ l∈v,l<6)->zcn u=zcn v->u=v:=by
 intro n
 induction n with
 |zero =>
  intro u v hu _ _ h;obtain rfl:u=[]:=eK oM;rcases zT v with rfl|⟨v,m,rfl⟩
  ·rfl
  ·rw [zav,zfA] at h;omega
 |succ n ih =>
  intro u v hu h1 h2 h;rcases zT u with rfl|⟨u,l,rfl⟩
  ·rcases zT v with rfl|⟨v,m,rfl⟩
   ·rfl
   ·rw [zav,zfA] at h;omega
  ·rcases zT v with rfl|⟨v,m,rfl⟩
   ·rw [zav,zfA] at h;omega
   ·have c:=h1 l sM;have d:=h2 m sM;rw [zav,zav] at h;have a:l=m:=oM;have b:zcn u=zcn v:=oM;simp only [eO,eZ] at hu;rw [a,ih u v oM (fun x hx=>h1 x (by simp [hx])) (fun x hx=>h2 x (by simp [hx])) b]
inductive zbh (d:Nat->Nat->List Nat) (start:List Nat):List Nat->Nat->Prop where
 |nil {x:Nat} (h:x∈start):zbh d start [] x
 |snoc {w:List Nat} {l n x:Nat} (h:zbh d start w n) (hx:x∈d n l):zbh d start (w++[l]) x
theorem zbh.inv {d:Nat->Nat->List Nat} {w:List Nat} (h:zbh d start (w++[l]) x):∃ n,zbh d start w n∧x∈d n l:=by
 generalize hv:w++[l]=v at h;cases h with
 |nil _=>simp at hv
 |@snoc w' l' n _ h hx =>
  have:=List.append_inj' hv rfl;obtain⟨rfl,a⟩:=this;simp at a;subst a;exact⟨n,h,hx⟩
theorem zbh.ag {d:Nat->Nat->List Nat}  (h:zbh d start [] x):x∈start:=by
 generalize hv:([]:List Nat)=v at h;cases h with
 |nil h=>exact h
 |snoc _ _=>simp at hv
def visN (st:List Bool × List Nat) (n:Nat):List Bool × List Nat:=if st.1.getD n true then st else (st.1.set n true,st.2++[n])
def vis (S:List Bool) (ns:List Nat):List Bool × List Nat:=ns.foldl visN (S,[])
theorem vis_snoc (S:List Bool) (ns:List Nat) (n:Nat):vis S (ns++[n])=visN (vis S ns) n:=by simp [vis]
theorem zgx (S:List Bool) (ns:List Nat)(hn:∀ n∈ns,n<S.length) :
  (vis S ns).1.length=S.length∧(∀ x,x<S.length->((vis S ns).1.getD x true=true↔S.getD x true=true∨x∈ns))∧(∀ x,x∈(vis S ns).2↔x∈ns∧S.getD x true=false):=by
 have j:∀ k,k<=ns.length->(vis S (ns.take k)).1.length=S.length∧(∀ x,x<S.length->((vis S (ns.take k)).1.getD x true=true↔S.getD x true=true∨x∈ns.take k))∧(∀ x,x∈(vis S (ns.take k)).2↔x∈ns.take k∧S.getD x true=false):=by
  intro k
  induction k with
  |zero=>intro _;exact⟨rfl,fun x _=>by simp [vis],fun x=>by simp [vis]⟩
  |succ k ih =>
   intro hk;obtain⟨g,d,f⟩:=ih oM;have hx:ns[k]?=some ns[k]:=dC oM;have c:=hn ns[k] (gQ _);rw [eH,hx];simp only [e7];generalize ns[k]=n at *;rw [vis_snoc];generalize vis S (ns.take k)=m at *;obtain⟨T,o⟩:=m;simp only at g d f;unfold visN;simp only;cases hT:T.getD n true
   ·have a:=d n c;rw [hT] at a;have i:S.getD n true=false:=by cases h:S.getD n true<;>simp_all
    have l:n∉ns.take k:=fun h=>by simp [h] at a
    refine⟨by simp [g],fun x hx=>?_,fun x=>?_⟩
    ·simp only [jL,if_false,eF,iA,fS]
     by_cases e:x=n
     ·subst e;rw [List.getElem?_set_self oM];simp
     ·rw [List.getElem?_set_ne oM];have:=d x hx;rw [eF,eF] at this;simp only [e,or_false];exact this
    ·simp only [jL,if_false,iA,fS];constructor
     ·rintro (h|rfl)
      ·exact⟨Or.inl ((f x).1 h).1,((f x).1 h).2⟩
      ·exact⟨Or.inr rfl,i⟩
     ·rintro ⟨h|rfl,b⟩
      ·exact Or.inl ((f x).2 ⟨h,b⟩)
      ·exact Or.inr rfl
   ·refine⟨g,fun x hx=>?_,fun x=>?_⟩
    ·simp only [if_true,iA,fS];rw [d x hx];have a:=(d n c).1 hT;constructor
     ·rintro (h|h)
      ·exact Or.inl h
      ·exact Or.inr (Or.inl h)
     ·rintro (h|h|rfl)
      ·exact Or.inl h
      ·exact Or.inr h
      ·exact a
    ·simp only [if_true,iA,fS];rw [f x];have a:=(d n c).1 hT;constructor
     ·rintro ⟨h,b⟩;exact⟨Or.inl h,b⟩
     ·rintro ⟨h|rfl,b⟩
      ·exact⟨h,b⟩
      ·rcases a with h|h
       ·rw [h] at b;cases b
       ·exact⟨h,b⟩
 have:=j ns.length (eA _);rwa [fI] at this
structure Stp where
 parent:Int
 letter:Nat
 nodes:List Nat
structure Bfs (d:Nat->Nat->List Nat) (start:List Nat) (goal:Nat->Bool) (L:List Nat) (N:Nat) (S:List Bool) (st:List Stp) (ws:List (List Nat)) (i j:Nat):Prop where
 len:S.length=N
 wl:ws.length=st.length
 small:∀ (k:Nat) (p:Stp),st[k]?=some p->∀ x∈p.nodes,x<N
 some_:∀ (k:Nat) (p:Stp),st[k]?=some p->p.nodes≠[]
 word:∀ (k:Nat) (p:Stp),st[k]?=some p->(k=0∧p.parent = -1∧ws.getD k []=[])∨(∃ a b:Nat,p.parent=(a:Int)∧a<k∧(a<i∨a=i∧b<j)∧L[b]?=some p.letter∧ws.getD k []=ws.getD a []++[p.letter])
 goes:∀ (k:Nat) (p:Stp),st[k]?=some p->∀ x∈p.nodes,zbh d start (ws.getD k []) x
 incr:∀ a b:Nat,a<b->b<st.length->zcn (ws.getD a [])<zcn (ws.getD b [])
 seen:∀ x,x<N->(S.getD x true=true↔∃ (k:Nat) (p:Stp),st[k]?=some p∧x∈p.nodes)
 first:∀ x∈start,∃ (p:Stp),st[0]?=some p∧x∈p.nodes
 zero:∀ p,st[0]?=some p->ws.getD 0 []=[]
 proc:∀ (k:Nat) (p:Stp) (b l:Nat),st[k]?=some p->L[b]?=some l->(k<i∨k=i∧b<j)->∀ n∈p.nodes,∀ x∈d n l,∃ (k':Nat) (q:Stp),st[k']?=some q∧x∈q.nodes∧zcn (ws.getD k' [])<=zcn (ws.getD k []++[l])
 dull:∀ (k:Nat) (p:Stp),st[k]?=some p->∀ x∈p.nodes,goal x=false
section
variable {d:Nat->Nat->List Nat} {start:List Nat} {goal:Nat->Bool} {L:List Nat} {N:Nat} {S:List Bool} {st:List Stp} {ws:List (List Nat)} {i j:Nat}
def Rise (L:List Nat):Prop:=(∀ l∈L,l<6)∧∀ (a b x y:Nat),L[a]?=some x->L[b]?=some y->a<b->x<y
theorem Bfs.before (h:Bfs d start goal L N S st ws i j) {V:Nat}(hV:∀ (k:Nat) (p:Stp) (b l:Nat),st[k]?=some p->L[b]?=some l->zcn (ws.getD k []++[l])<V->(k<i∨k=i∧b<j)) :
  ∀ (m:Nat) (v:List Nat),v.length<=m->(∀ l∈v,l∈L)->zcn v<V->∀ x,zbh d start v x->∃ (k:Nat) (p:Stp),st[k]?=some p∧x∈p.nodes∧zcn (ws.getD k [])<=zcn v:=by
 intro m
 induction m with
 |zero =>
  intro v hv _ _ x hx;obtain rfl:v=[]:=eK oM;obtain⟨p,a,c⟩:=h.first x hx.ag
  exact⟨0,p,a,c,by rw [h.zero p a];exact eA _⟩
 |succ m ih =>
  intro v hv hl hlt x hx;rcases zT v with rfl|⟨u,l,rfl⟩
  ·obtain⟨p,a,c⟩:=h.first x hx.ag
   exact⟨0,p,a,c,by rw [h.zero p a];exact eA _⟩
  ·obtain⟨n,z,s⟩:=hx.inv;simp only [eO,eZ] at hv;have o:=hl l sM;obtain⟨b,y⟩:=eT o;rw [zav] at hlt;obtain⟨k,p,a,r,D⟩:=ih u oM (fun x hx=>hl x (by simp [hx])) oM n z;have f:zcn (ws.getD k []++[l])<V:=by rw [zav];omega
   obtain⟨C,q,B,t,g⟩:=h.proc k p b l a y (hV k p b l a y f) n r x s;exact⟨C,q,B,t,by rw [zav] at g ⊢;omega⟩
theorem Bfs.none (h:Bfs d start goal L N S st ws i j)(hend:st.length<=i) (hv:∀ l∈v,l∈L) (hx:zbh d start v x):goal x=false:=by
 by_cases hst:st=[]
 ·subst hst;exfalso;have:∀ (m:Nat) (v:List Nat),v.length<=m->∀ x,¬ zbh d start v x:=by
   intro m
   induction m with
   |zero =>
    intro v hv x hx;obtain rfl:v=[]:=eK oM;obtain⟨p,a,_⟩:=h.first x hx.ag
    simp at a
   |succ m ih =>
    intro v hv x hx;rcases zT v with rfl|⟨u,l,rfl⟩
    ·obtain⟨p,a,_⟩:=h.first x hx.ag
     simp at a
    ·obtain⟨n,f,_⟩:=hx.inv;exact ih u (by simp at hv;omega) n f
  exact this v.length v (eA _) x hx
 ·obtain⟨k,p,a,c,_⟩:=h.before (V:=zcn v+1) (fun k p b l a hb _=>Or.inl (by have:=(List.getElem?_eq_some_iff.1 a).1;omega)) v.length v (eA _) hv oM x hx;exact h.dull k p a x c
theorem Bfs.ahead (h:Bfs d start goal L N S st ws i j)(hL:Rise L) (hi:i<st.length)(hl:L[j]?=some l) (hk:k<st.length):zcn (ws.getD k [])<zcn (ws.getD i []++[l]):=by
 rw [zav];rcases h.word k _ (dC hk) with ⟨_,_,e⟩|⟨a,b,_,n,c,f,e⟩
 ·rw [e,zfA];omega
 ·rw [e,zav];have o:=hL.1 _ (eB f);rcases c with g|⟨rfl,m⟩
  ·have:=h.incr a i g hi;omega
  ·have:=hL.2 b j _ _ f hl m;omega
theorem Bfs.taken (h:Bfs d start goal L N S st ws i j)(hL:Rise L) (hi:i<st.length)(hl:L[j]?=some l) (k:Nat) (p:Stp) (b m:Nat)(hp:st[k]?=some p)(hb:L[b]?=some m)(hlt:zcn (ws.getD k []++[m])<zcn (ws.getD i []++[l])):k<i∨k=i∧b<j:=by
 rw [zav,zav] at hlt;have f:=(List.getElem?_eq_some_iff.1 hp).1;have g:=hL.1 _ (eB hb);have n:=hL.1 _ (eB hl);rcases fY k i with a|a|a
 ·exact Or.inl a
 ·subst a;refine Or.inr ⟨rfl,?_⟩;rcases fY b j with c|c|c
  ·exact c
  ·subst c;rw [hb] at hl;have:=Option.some.inj hl;omega
  ·have:=hL.2 j b _ _ hl hb c;omega
 ·have:=h.incr i k a f;omega
theorem Bfs.found (h:Bfs d start goal L N S st ws i j)(hL:Rise L) (hi:i<st.length)(hl:L[j]?=some l) (hv:∀ x∈v,x∈L)(hlt:zcn v<zcn (ws.getD i []++[l])) (hx:zbh d start v x):goal x=false:=by
 obtain⟨k,p,a,c,_⟩:=h.before (fun k p b m a hb hlt=>h.taken hL hi hl k p b m a hb hlt) v.length v (eA _) hv hlt x hx;exact h.dull k p a x c
theorem Bfs.row (h:Bfs d start goal L N S st ws i j)(hj:L.length<=j):Bfs d start goal L N S st ws (i+1) 0:=
 { h with
  word:=fun k p hp=>by
   rcases h.word k p hp with h1|⟨a,b,h1,h2,h3,h4⟩
   ·exact Or.inl h1
   ·exact Or.inr ⟨a,b,h1,h2,oM,h4⟩
  proc:=fun k p b l hp hb hk=>by
   have hbl:=(List.getElem?_eq_some_iff.1 hb).1
   exact h.proc k p b l hp hb oM }
def addS (st:List Stp) (a:Int) (l:Nat) (fr:List Nat):List Stp:=if fr=[] then st else st++[⟨a,l,fr⟩]
def addW (ws:List (List Nat)) (w:List Nat) (fr:List Nat):List (List Nat):=if fr=[] then ws else ws++[w]
theorem zfc {ws:List (List Nat)}  (w:List Nat)(hk:k<ws.length):(ws++[w]).getD k []=ws.getD k []:=by
 rw [eF,eF,eI hk]
theorem zgG {ws:List (List Nat)} (w:List Nat):(ws++[w]).getD ws.length []=w:=by
 rw [eF,eM (eA _),fO];rfl
theorem Bfs.step (h:Bfs d start goal L N S st ws i j)(hL:Rise L)  {pi:Stp}(hi:st[i]?=some pi)(hl:L[j]?=some l) {rs:List Nat}(hrs:∀ x,x∈rs↔∃ n∈pi.nodes,x∈d n l)(hN:∀ x∈rs,x<N)(hg:∀ x∈(vis S rs).2,goal x=false) :
  Bfs d start goal L N (vis S rs).1 (addS st i l (vis S rs).2) (addW ws (ws.getD i []++[l]) (vis S rs).2) i (j+1):=by
 have M:=(List.getElem?_eq_some_iff.1 hi).1;obtain⟨Y,Z,Q⟩:=zgx S rs (fun n E=>by rw [h.len];exact hN n E);generalize (vis S rs).1=T at *;generalize (vis S rs).2=J at *;have s:=fun k v=>h.ahead hL M hl (k:=k) v
 by_cases hfr:J=[]
 ·subst hfr;rw [addS,if_pos rfl,addW,if_pos rfl];have I:∀ x∈rs,S.getD x true=true:=fun x hx=>by
   cases hS:S.getD x true
   ·have:=(Q x).2 ⟨hx,hS⟩;cases this
   ·rfl
  refine { h with len:=Y.trans h.len,word:=?_,seen:=?_,proc:=?_ }
  ·intro k p c;rcases h.word k p c with f|⟨a,b,f,h2,h3,h4⟩
   ·exact Or.inl f
   ·exact Or.inr ⟨a,b,f,h2,oM,h4⟩
  ·intro x hx;rw [Z x (by rw [h.len];exact hx)];constructor
   ·rintro (f|f)
    ·exact (h.seen x hx).1 f
    ·exact (h.seen x hx).1 (I x f)
   ·intro f;exact Or.inl ((h.seen x hx).2 f)
  ·intro k p b m c hb v n E x hx
   by_cases hkj:k=i∧b=j
   ·obtain⟨rfl,rfl⟩:=hkj;rw [hi] at c;obtain rfl:=Option.some.inj c;rw [hl] at hb;obtain rfl:=Option.some.inj hb;have z:=(hrs x).2 ⟨n,E,hx⟩;obtain⟨F,q,H,y⟩:=(h.seen x (hN x z)).1 (I x z);exact⟨F,q,H,y,Nat.le_of_lt (s F (List.getElem?_eq_some_iff.1 H).1)⟩
   ·exact h.proc k p b m c hb oM n E x hx
 ·rw [addS,if_neg hfr,addW,if_neg hfr];have g:∀ {k:Nat} {p:Stp},(st++[(⟨i,l,J⟩:Stp)])[k]?=some p->(k<st.length∧st[k]?=some p)∨(k=st.length∧p=⟨i,l,J⟩):=by
   intro k p c;rcases fY k st.length with v|v|v
   ·rw [eI v] at c;exact Or.inl ⟨v,c⟩
   ·rw [eM oM,v,fO] at c;exact Or.inr ⟨v,(Option.some.inj c).symm⟩
   ·rw [eP (by simp;omega)] at c;cases c
  have r:∀ {k:Nat} {p:Stp},st[k]?=some p->(st++[(⟨i,l,J⟩:Stp)])[k]?=some p:=fun {k p} c=>by
   rw [eI (List.getElem?_eq_some_iff.1 c).1];exact c
  have G:(st++[(⟨i,l,J⟩:Stp)])[st.length]?=some ⟨i,l,J⟩:=by rw [eM (eA _),fO];rfl
  have O:=h.wl;have o:∀ k,k<st.length->(ws++[ws.getD i []++[l]]).getD k []=ws.getD k []:=fun k v=>zfc _ oM;have C:(ws++[ws.getD i []++[l]]).getD st.length []=ws.getD i []++[l]:=by rw [← O];exact zgG _
  have u:∀ x∈J,x∈rs∧S.getD x true=false:=fun x hx=>(Q x).1 hx;refine⟨Y.trans h.len,by simp [O],?_,?_,?_,?_,?_,?_,?_,?_,?_,?_⟩
  ·intro k p c x hx;rcases g c with ⟨_,f⟩|⟨_,rfl⟩
   ·exact h.small k p f x hx
   ·exact hN x (u x hx).1
  ·intro k p c;rcases g c with ⟨_,f⟩|⟨_,rfl⟩
   ·exact h.some_ k p f
   ·exact hfr
  ·intro k p c;rcases g c with ⟨B,f⟩|⟨rfl,rfl⟩
   ·rcases h.word k p f with ⟨e0,R,U⟩|⟨a,b,R,U,e3,e4,e5⟩
    ·exact Or.inl ⟨e0,R,by rw [o k B];exact U⟩
    ·exact Or.inr ⟨a,b,R,U,oM,e4,by rw [o k B,o a oM];exact e5⟩
   ·exact Or.inr ⟨i,j,rfl,M,Or.inr ⟨rfl,oM⟩,hl,by rw [C,o i M]⟩
  ·intro k p c x hx;rcases g c with ⟨B,f⟩|⟨rfl,rfl⟩
   ·rw [o k B];exact h.goes k p f x hx
   ·rw [C];obtain⟨n,E,X⟩:=(hrs x).1 (u x hx).1;exact .snoc (h.goes i pi hi n E) X
  ·intro a b hab hb;simp only [eO,eZ] at hb
   by_cases hbl:b<st.length
   ·rw [o a oM,o b hbl];exact h.incr a b hab hbl
   ·obtain rfl:b=st.length:=oM;rw [o a hab,C];exact s a hab
  ·intro x hx;rw [Z x (by rw [h.len];exact hx)];constructor
   ·rintro (f|f)
    ·obtain⟨k,p,c,t⟩:=(h.seen x hx).1 f;exact⟨k,p,r c,t⟩
    ·cases hS:S.getD x true
     ·exact⟨_,_,G,(Q x).2 ⟨f,hS⟩⟩
     ·obtain⟨k,p,c,t⟩:=(h.seen x hx).1 hS;exact⟨k,p,r c,t⟩
   ·rintro ⟨k,p,c,t⟩;rcases g c with ⟨_,f⟩|⟨_,rfl⟩
    ·exact Or.inl ((h.seen x hx).2 ⟨k,p,f,t⟩)
    ·exact Or.inr (u x t).1
  ·intro x hx;obtain⟨p,c,t⟩:=h.first x hx
   exact⟨p,r c,t⟩
  ·intro p c;rcases g c with ⟨B,f⟩|⟨B,_⟩
   ·rw [o 0 B];exact h.zero p f
   ·omega
  ·intro k p b m c hb v n E x hx;rcases g c with ⟨B,f⟩|⟨rfl,rfl⟩
   ·rw [o k B]
    by_cases hkj:k=i∧b=j
    ·obtain⟨rfl,rfl⟩:=hkj;rw [hi] at f;obtain rfl:=Option.some.inj f;rw [hl] at hb;obtain rfl:=Option.some.inj hb;have z:=(hrs x).2 ⟨n,E,hx⟩;cases hS:S.getD x true
     ·exact⟨_,_,G,(Q x).2 ⟨z,hS⟩,by rw [C];exact eA _⟩
     ·obtain⟨F,q,H,y⟩:=(h.seen x (hN x z)).1 hS;have D:=(List.getElem?_eq_some_iff.1 H).1;exact⟨F,q,r H,y,by rw [o F D];exact Nat.le_of_lt (s F D)⟩
    ·obtain⟨F,q,H,y,V⟩:=h.proc k p b m f hb oM n E x hx;have D:=(List.getElem?_eq_some_iff.1 H).1;exact⟨F,q,r H,y,by rw [o F D];exact V⟩
   ·omega
  ·intro k p c x hx;rcases g c with ⟨_,f⟩|⟨_,rfl⟩
   ·exact h.dull k p f x hx
   ·exact hg x hx
theorem Bfs.begin_ {d:Nat->Nat->List Nat}  {goal:Nat->Bool} {L:List Nat} {N:Nat}(hN:∀ x∈start,x<N)(hg:∀ x∈(vis (eN N false) start).2,goal x=false) :
  Bfs d start goal L N (vis (eN N false) start).1 (addS [] (-1) 0 (vis (eN N false) start).2) (addW [] [] (vis (eN N false) start).2) 0 0:=by
 obtain⟨r,s,t⟩:=zgx (eN N false) start (fun n hn=>by simpa using hN n hn);have o:∀ x,x<N->(eN N false).getD x true=false:=fun x hx=>by simp [eF,hx]
 generalize (vis (eN N false) start).1=T at *;generalize (vis (eN N false) start).2=i at *;have g:∀ x,x∈i↔x∈start:=fun x=>(t x).trans ⟨fun h=>h.1,fun h=>⟨h,o x (hN x h)⟩⟩;have m:∀ x,x<N->(T.getD x true=true↔x∈start):=fun x hx=>by
  rw [s x (by simpa using hx),o x hx];simp
 by_cases he:i=[]
 ·subst he;rw [addS,if_pos rfl,addW,if_pos rfl];have q:∀ x,x∉start:=fun x hx=>by have:=(g x).2 hx;cases this
  refine⟨by simpa using r,rfl,fun k p c=>by simp at c,fun k p c=>by simp at c,fun k p c=>by simp at c,fun k p c=>by simp at c,fun a b _ hb=>by simp at hb,fun x hx=>?_,fun x hx=>absurd hx (q x),fun p c=>by simp at c,fun k p b l c=>by simp at c,fun k p c=>by simp at c⟩;rw [m x hx];exact⟨fun h=>absurd h (q x),fun ⟨k,p,c,_⟩=>by simp at c⟩
 ·rw [addS,if_neg he,addW,if_neg he];have f:∀ {k:Nat} {p:Stp},([]++[(⟨-1,0,i⟩:Stp)])[k]?=some p->k=0∧p=⟨-1,0,i⟩:=by
   intro k p c;cases k with
   |zero=>exact⟨rfl,by simpa using c.symm⟩
   |succ k=>simp at c
  refine⟨by simpa using r,rfl,?_,?_,?_,?_,?_,?_,?_,?_,?_,?_⟩
  ·intro k p c x hx;obtain⟨rfl,rfl⟩:=f c;exact hN x ((g x).1 hx)
  ·intro k p c;obtain⟨rfl,rfl⟩:=f c;exact he
  ·intro k p c;obtain⟨rfl,rfl⟩:=f c;exact Or.inl ⟨rfl,rfl,rfl⟩
  ·intro k p c x hx;obtain⟨rfl,rfl⟩:=f c;exact .nil ((g x).1 hx)
  ·intro a b hab hb;simp at hb;omega
  ·intro x hx;rw [m x hx];constructor
   ·intro h;exact⟨0,_,rfl,(g x).2 h⟩
   ·rintro ⟨k,p,c,j⟩;obtain⟨rfl,rfl⟩:=f c;exact (g x).1 j
  ·intro x hx;exact⟨_,rfl,(g x).2 hx⟩
  ·intro p _;rfl
  ·intro k p b l c _ hk;omega
  ·intro k p c x hx;obtain⟨rfl,rfl⟩:=f c;exact hg x hx
end
theorem visN_cnt (st:List Bool × List Nat) (n:Nat):(visN st n).1.count true+st.2.length=st.1.count true+(visN st n).2.length:=by
 unfold visN;cases h:st.1.getD n true
 ·have b:n<st.1.length:=by
   rcases fK n st.1.length with a|a
   ·exact a
   ·rw [eF,eP a] at h;cases h
  have c:st.1[n]=false:=by rw [eF,dC b] at h;exact h
  simp only [jL,if_false];rw [List.count_set b,c];simp;omega
 ·simp
theorem foldl_cnt (ns:List Nat) (st:List Bool × List Nat):(ns.foldl visN st).1.count true+st.2.length=st.1.count true+(ns.foldl visN st).2.length:=by
 induction ns generalizing st with
 |nil=>rfl
 |cons n r ih =>
  have a:=ih (visN st n);have b:=visN_cnt st n;rw [iZ];omega
theorem vis_cnt (S:List Bool) (ns:List Nat):(vis S ns).1.count true=S.count true+(vis S ns).2.length:=by
 have:=foldl_cnt ns (S,[]);simpa [vis] using this
def Cnt (S:List Bool) (st:List Stp):Prop:=(st.map fun p=>p.nodes.length).sum=S.count true
theorem Cnt.add {st:List Stp}(h:Cnt S st) (a:Int) (l:Nat) (ns:List Nat):Cnt (vis S ns).1 (addS st a l (vis S ns).2):=by
 unfold Cnt at h ⊢;rw [vis_cnt,addS]
 by_cases he:(vis S ns).2=[]
 ·rw [if_pos he,he,h];rfl
 ·rw [if_neg he];simp [h]
theorem Cnt.nil (N:Nat):Cnt (eN N false) []:=by
 unfold Cnt;simp [List.count_replicate]
theorem sum_len {l:List Nat}(h:∀ x∈l,1<=x):l.length<=l.sum:=by
 induction l with
 |nil=>simp
 |cons x r ih =>
  have a:=ih (fun y hy=>h y (by simp [hy]));have b:=h x sM;simp;omega
theorem sum_mem {l:List Nat} (h:x∈l):x<=l.sum:=by
 induction l with
 |nil=>cases h
 |cons y r ih =>
  rcases List.mem_cons.1 h with rfl|h
  ·simp
  ·have:=ih h;simp;omega
theorem Cnt.steps {st:List Stp}(h:Cnt S st)(hs:∀ (k:Nat) (p:Stp),st[k]?=some p->p.nodes≠[]):st.length<=S.length:=by
 unfold Cnt at h;have a:(st.map fun p=>p.nodes.length).length<=(st.map fun p=>p.nodes.length).sum:=sum_len (fun x hx=>by
  obtain⟨p,c,rfl⟩:=List.mem_map.1 hx;obtain⟨k,b⟩:=eT c;have:=hs k p b;have:=List.length_pos_iff.2 this;omega)
 rw [List.length_map,h] at a;exact eJ a List.count_le_length
theorem Cnt.nodes {st:List Stp}(h:Cnt S st)  {p:Stp}(hp:st[k]?=some p):p.nodes.length<=S.length:=by
 unfold Cnt at h;have a:=sum_mem (List.mem_map.2 ⟨p,eB hp,rfl⟩:p.nodes.length∈st.map fun p=>p.nodes.length);rw [h] at a;exact eJ a List.count_le_length
def reach (d:Nat->Nat->List Nat) (l:Nat) (ns:List Nat):List Nat:=(ns.map fun n=>d n l).flatten
theorem zgR {d:Nat->Nat->List Nat}   :x∈reach d l ns↔∃ n∈ns,x∈d n l:=by
 unfold reach;rw [List.mem_flatten];exact⟨fun ⟨ys,h1,h2⟩=>by obtain⟨n,a,rfl⟩:=List.mem_map.1 h1;exact⟨n,a,h2⟩,fun ⟨n,a,h2⟩=>⟨_,List.mem_map.2 ⟨n,a,rfl⟩,h2⟩⟩
theorem reach_snoc (d:Nat->Nat->List Nat) (l:Nat) (ns:List Nat) (n:Nat):reach d l (ns++[n])=reach d l ns++d n l:=by simp [reach]
theorem reach_take {d:Nat->Nat->List Nat}  (h:ns[k]?=some n):reach d l (ns.take (k+1))=reach d l (ns.take k)++d n l:=by
 rw [eH,h];exact reach_snoc _ _ _ _
theorem reach_len {d:Nat->Nat->List Nat} {D:Nat} (h:∀ n∈ns,(d n l).length<=D):(reach d l ns).length<=ns.length*D:=by
 induction ns with
 |nil=>simp [reach]
 |cons n r ih =>
  have a:=ih (fun x hx=>h x (by simp [hx]));have b:=h n sM;simp only [reach,gJ,List.flatten_cons,eO,gS,jJ,Nat.one_mul] at a ⊢;omega
def Found (d:Nat->Nat->List Nat) (start:List Nat) (goal:Nat->Bool) (L:List Nat) (v:List Nat):Prop:=
 (∀ l∈v,l∈L)∧(∃ x,zbh d start v x∧goal x=true)∧∀ u,(∀ l∈u,l∈L)->zcn u<zcn v->∀ x,zbh d start u x->goal x=false
def Lost (d:Nat->Nat->List Nat) (start:List Nat) (goal:Nat->Bool) (L:List Nat):Prop:=∀ v,(∀ l∈v,l∈L)->∀ x,zbh d start v x->goal x=false
def E (es:List Edg) (i l k:Nat):Prop:=∃ e∈es,e.fr=i∧e.le=l∧e.ta=k
def rel (R:List Nat) (i j:Nat):Prop:=i<R.length∧(R.getD i 0).testBit j=true
def succ (es:List Edg) (i l:Int):Nat:=es.foldl (fun m e=>if e.fr=i∧e.le=l then m|||2 ^ e.ta.toNat else m) 0
theorem succ_snoc (es:List Edg) (e:Edg) (i l:Int):succ (es++[e]) i l=if e.fr=i∧e.le=l then succ es i l|||2 ^ e.ta.toNat else succ es i l:=by
 simp [succ]
theorem and_pred (k m:Nat):(2 ^ k*(2*m+1))&&&(2 ^ k*(2*m+1) - 1)=2 ^ k*(2*m):=by
 have c:=j4 k;have e:2 ^ k*(2*m+1) - 1=2 ^ k*(2*m)+(2 ^ k - 1):=by rw [Nat.mul_add,jK];omega
 rw [e];apply gI;intro i;have a:∀ q,(2 ^ k*q).testBit i=if i<k then false else q.testBit (i - k):=fun q=>by
  have:=iV q (b:=0) (i:=k) c i;rw [iI] at this;rw [this,iW]
 rw [gP,a,iV _ oM,a]
 by_cases hi:i<k
 ·simp [hi]
 ·simp only [hi,if_false];cases hd:i - k with
  |zero=>simp [Nat.testBit_zero]
  |succ d=>rw [jI,jI,show (2*m+1) / 2=m by omega,show (2*m) / 2=m by omega];simp
theorem lowest (h0:x≠0)(hs:Sm x):∃ k,Lib.ctz 64 x=k∧k<32∧x.testBit k=true∧(∀ i,i<k->x.testBit i=false)∧x&&&(x - 1)=x - 2 ^ k∧2 ^ k<=x:=by
 have hx:=hs.lt;obtain⟨m,a,g⟩:=Lib.ctzFrom_spec 64 x oM oM;have e:Lib.ctz 64 x=Lib.ctzFrom 64 x:=by simp [Lib.ctz,h0]
 generalize Lib.ctzFrom 64 x=k at *;have f:=j4 k;have c:2 ^ k<=x:=by rw [a];exact Nat.le_mul_of_pos_right _ oM
 have d:∀ q i,(2 ^ k*q).testBit i=if i<k then false else q.testBit (i - k):=fun q i=>by
  have:=iV q (b:=0) (i:=k) f i;rw [iI] at this;rw [this,iW]
 refine⟨k,e,?_,?_,fun i hi=>?_,?_,c⟩
 ·apply Nat.lt_of_not_le;intro h32;have:=eW (n:=2) oM h32;omega
 ·rw [a,d];simp
 ·rw [a,d];simp [hi]
 ·rw [a,and_pred,Nat.mul_add,jK,iD]
theorem zcE {j:Nat}(h:x.testBit j=true)(hl:∀ i,i<j->x.testBit i=false) (k:Nat):(x - 2 ^ j).testBit k=(x.testBit k&&!decide (k=j)):=by
 have f:x / 2 ^ j % 2=1:=by
  have:=h;rw [Nat.testBit_eq_decide_div_mod_eq] at this;simpa using this
 have g:=j4 j;have l:x % 2 ^ j=0:=by
  apply gI;intro i;rw [Nat.testBit_mod_two_pow,iW]
  by_cases hi:i<j
  ·simp [hi,hl i hi]
  ·simp [hi]
 have a:=Nat.div_add_mod x (2 ^ j);rw [l,iI] at a;generalize x / 2 ^ j=q at *;have c:∀ q i,(2 ^ j*q).testBit i=if i<j then false else q.testBit (i - j):=fun q i=>by
  have:=iV q (b:=0) (i:=j) g i;rw [iI] at this;rw [this,iW]
 have e:x - 2 ^ j=2 ^ j*(q - 1):=by rw [← a,Nat.mul_sub,jK]
 rw [e,← a,c,c]
 by_cases hk:k<j
 ·simp [hk]
 ·simp only [hk,if_false];obtain⟨d,rfl⟩:∃ d,k=j+d:=⟨k - j,oM⟩;rw [Nat.add_sub_cancel_left];cases d with
  |zero=>simp [Nat.testBit_zero];omega
  |succ d =>
   rw [jI,jI,show (q - 1) / 2=q / 2 by omega];simp
theorem zgP (h:x.testBit k=true)(hl:∀ i,i<k->x.testBit i=false):∀ n,(n<=k->letters x n=[]∧letters (x - 2 ^ k) n=[])∧(k<n->letters x n=k :: letters (x - 2 ^ k) n)
 |0=>⟨fun _=>⟨rfl,rfl⟩,fun h=>oM⟩
 |n+1=>by
  have ih:=zgP h hl n
  have hb:=zcE h hl n
  rw [zbc,zbc,hb]
  refine⟨fun hn=>?_,fun hn=>?_⟩
  ·obtain⟨e1,e2⟩:=ih.1 oM
   rw [e1,e2,hl n oM]
   simp
  ·rcases fK k n with h1|h1
   ·rw [ih.2 h1]
    have:n≠k:=oM
    simp [this]
   ·obtain⟨e1,e2⟩:=ih.1 h1
    obtain rfl:n=k:=oM
    rw [e1,e2,h]
    simp
theorem letters_step (h0:x≠0)(hs:Sm x):letters x 32=Lib.ctz 64 x :: letters (x&&&(x - 1)) 32∧x&&&(x - 1)<x∧Lib.ctz 64 x<32:=by
 obtain⟨k,e,a,c,d,b,f⟩:=lowest h0 hs;have g:=j4 k;rw [e,b];exact⟨(zgP c d 32).2 a,oM,a⟩
theorem impl_members (a:Nat)(hs:Sm a) (w:World)(hT:Tab w) :
  Calls Tryz.prog 243 #[a] w (zbI w (letters a 32)):=by
 have d:=zJ a 32
 go_enter Tryz.func243,Tryz.ntmps243
 go_wp2
 go_loopw [0,3,4] (fun s v _ wr=>∃ x:Nat,s=.int .i64 x∧Sm x∧∃ o:List Nat,Hid (letters a 32=o++letters x 32)∧wr.ownsRow w.heap.size 3 1 v o.length (zU o)∧Ext w wr)
  (fun s _ _ _=>(intOf s).toNat)
 case atStart=>exact⟨a,rfl,hs,[],rfl,World.ownsRow_nil _ _ _ _,dB _⟩
 case round =>
  obtain⟨x,rfl,hx,o,l,h,i⟩:=hrel;have t:=hx.lt;have g:o.length+(letters x 32).length<=32:=by have:=l.out;rw [this,eO] at d;exact d
  by_cases h0:x=0
  ·subst h0;obtain⟨A,c,rfl⟩:=zi h;go_wp2;go_ret;have f:=l.out;rw [show letters 0 32=[] by decide,List.append_nil] at f;exact⟨A,c,by rw [f];rfl,by rw [f];exact h,i⟩
  ·obtain⟨k,hlt,u⟩:=letters_step h0 hx;have q:=za k;have r:((x:Int) != 0)=true:=by simp;omega
   have j:=hT.ext i;have m:=za (zce (a:=x) (b:=x - 1) hx tM);have p:o.length<32:=by rw [k] at g;simp at g;omega
   clear k d g;have n:=za (show ((x:Int) - 1)=((x - 1:Nat):Int) by omega);go_wp2_with (first
    |(go_at_call 276;refine (tz x oM h0 _ j).mono ?_;rintro e w' ⟨rfl,rfl⟩)
    |(at_builtin;refine zal w wr rfl (.tmp 10) (.tmp 14) _ rfl 3 _ 1 8 Tryz.underlying128 zai rfl dM u3 _ _ _ _ rfl rfl i h rfl (zaY _) lM oM ?_;intro v' w1 hext1 zjl hg1 hat1))
   go_roundw
   case rel=>exact⟨x&&&(x - 1),by rw [n.out,m.out],Nat.lt_of_le_of_lt Nat.and_le_left hx,o++[Lib.ctz 64 x],by have:=l.out;unfold Hid;rw [this,q.out];simp,by simpa [zU] using zjl,aM⟩
   case measure =>
    have:=m.out;rw [← n.out] at this;simp [intOf];omega
theorem foldl_bit (es:List Edg) (p:Edg->Prop) [DecidablePred p] (m k:Nat):(es.foldl (fun m e=>if p e then m|||2 ^ e.ta.toNat else m) m).testBit k=true↔m.testBit k=true∨∃ e∈es,p e∧e.ta.toNat=k:=by
 induction es generalizing m with
 |nil=>simp
 |cons e r ih =>
  rw [iZ,ih]
  by_cases hp:p e
  ·rw [if_pos hp,Nat.testBit_or,Nat.testBit_two_pow];simp only [gO,decide_eq_true_eq,List.mem_cons];constructor
   ·rintro ((h|h)|⟨c,a,b⟩)
    ·exact Or.inl h
    ·exact Or.inr ⟨e,Or.inl rfl,hp,h⟩
    ·exact Or.inr ⟨c,Or.inr a,b⟩
   ·rintro (h|⟨c,a|a,b⟩)
    ·exact Or.inl (Or.inl h)
    ·subst a;exact Or.inl (Or.inr b.2)
    ·exact Or.inr ⟨c,a,b⟩
  ·rw [if_neg hp];constructor
   ·rintro (h|⟨c,a,b⟩)
    ·exact Or.inl h
    ·exact Or.inr ⟨c,eV _ a,b⟩
   ·rintro (h|⟨c,a,b⟩)
    ·exact Or.inl h
    ·rcases List.mem_cons.1 a with a|a
     ·subst a;exact absurd b.1 hp
     ·exact Or.inr ⟨c,a,b⟩
theorem zdD (es:List Edg) (i l:Int) (k:Nat):(succ es i l).testBit k=true↔∃ e∈es,(e.fr=i∧e.le=l)∧e.ta.toNat=k:=by
 have:=foldl_bit es (fun e=>e.fr=i∧e.le=l) 0 k;simpa [succ] using this
def Few (n:Nat) (es:List Edg):Prop:=∀ e∈es,(0<=e.fr∧e.fr<n)∧(0<=e.le∧e.le<6)∧(0<=e.ta∧e.ta<n)
theorem succ_lt (h:Few n es) (i l:Int):succ es i l<2 ^ n:=by
 apply j0;intro k hk;rw [fQ];intro hb;obtain⟨e,a,_,b⟩:=(zdD es i l k).1 hb;have:=h e a;omega
theorem succ_sm (h:Few n es)(hn:n<=16) (i l:Int):Sm (succ es i l):=
 eU (succ_lt h i l) (by rw [show (4294967296:Nat)=2 ^ 32 from rfl];exact eW oM oM)
def diff (a b:Nat):Nat:=a ^^^ (a&&&b)
theorem zis (a b k:Nat):(diff a b).testBit k=(a.testBit k&&!b.testBit k):=by
 unfold diff;rw [Nat.testBit_xor,gP];cases a.testBit k<;>cases b.testBit k<;>rfl
theorem diff_le (a b:Nat):diff a b<=a:=by
 apply Nat.le_of_testBit;intro k hk;rw [zis] at hk;simp at hk;exact hk.1
theorem mem_letters :k∈letters a n↔k<n∧a.testBit k=true:=by simp [letters]
def cho (s:Sys) (i l:Nat):List Nat:=if s.al.toNat.testBit l then letters (succ s.edges i l) 32 else [i]
def nx:List Sys->Nat->Nat->List Nat × Nat × Nat
 |[],m,_=>([0],1,m)
 |s :: r,m,l=>((cho s ((nx r m l).2.2 % s.st.toNat) l).flatMap (fun q=>(nx r m l).1.map fun x=>q*(nx r m l).2.1+x),(nx r m l).2.1*s.st.toNat,(nx r m l).2.2 / s.st.toNat)
def Sml (s:Sys):Prop:=1<=s.st∧s.st<=16∧Few s.st.toNat s.edges∧0<=s.al∧s.al<=63
theorem zfj (a k:Nat):(letters a k).Nodup:=List.Pairwise.filter _ List.nodup_range
theorem zB :x∈letters a k↔x<k∧a.testBit x=true:=by simp [letters,List.mem_filter]
theorem cho_lt (h:Sml s) (hi:i<s.st.toNat):∀ q∈cho s i l,q<s.st.toNat:=by
 intro q hq;unfold cho at hq
 split at hq
 ·have b:=(zB.1 hq).2;rcases fK q s.st.toNat with a|a
  ·exact a
  ·have:=Nat.testBit_lt_two_pow (eU (succ_lt h.2.2.1 i l) (eW oM a));rw [b] at this;cases this
 ·rw [List.mem_singleton.1 hq];exact hi
theorem cho_nodup (s:Sys) (i l:Nat):(cho s i l).Nodup:=by
 unfold cho;split
 ·exact zfj _ _
 ·simp
theorem zgU {l:List Nat}(h:l.Nodup) {p:Nat}(hl:∀ x∈l,x<p):l.length<=p:=by
 have a:l ⊆ fE p:=fun x hx=>List.mem_range.2 (hl x hx);have:=List.Nodup.length_le_of_subset h a;simpa using this
theorem cho_len (h:Sml s) (hi:i<s.st.toNat):(cho s i l).length<=s.st.toNat:=zgU (cho_nodup s i l) (cho_lt h hi)
theorem flat_nodup {l R:List Nat} {W:Nat}(hl:l.Nodup)(hR:R.Nodup)(hW:∀ x∈R,x<W):(l.flatMap fun q=>R.map fun x=>q*W+x).Nodup:=by
 induction l with
 |nil=>simp
 |cons a r ih =>
  rw [j9];rw [List.nodup_cons] at hl;refine List.nodup_append.2 ⟨?_,ih hl.2,?_⟩
  ·exact List.Pairwise.map _ (fun a b h=>by simpa using h) hR
  ·intro x hx y c hxy;subst hxy;obtain⟨u,m,rfl⟩:=List.mem_map.1 hx;obtain⟨b,j,c⟩:=List.mem_flatMap.1 c;obtain⟨v,n,k⟩:=List.mem_map.1 c;have g:=hW u m;have i:=hW v n;have:a=b:=by
    have d:(a*W+u) / W=a:=by rw [Nat.add_comm,Nat.add_mul_div_right _ _ oM,jH g,eS]
    have f:(b*W+v) / W=b:=by rw [Nat.add_comm,Nat.add_mul_div_right _ _ oM,jH i,eS]
    rw [← d,← f,k]
   subst this;exact hl.1 j
theorem nx_facts (h:∀ s∈ss,Sml s) (m l:Nat):1<=(nx ss m l).2.1∧(nx ss m l).2.1<=16 ^ ss.length∧(∀ x∈(nx ss m l).1,x<(nx ss m l).2.1)∧(nx ss m l).1.Nodup∧(nx ss m l).2.2<=m:=by
 induction ss with
 |nil=>simp [nx]
 |cons s r ih =>
  obtain⟨f,g,d,i,j⟩:=ih fun s b=>h s (eV _ b);have b:=h s List.mem_cons_self;have a:1<=s.st.toNat∧s.st.toNat<=16:=by have:=b.1;have:=b.2.1;omega
  refine⟨Nat.mul_pos f a.1,?_,fun x hx=>?_,flat_nodup (cho_nodup _ _ _) i d,eJ (Nat.div_le_self _ _) j⟩
  ·rw [nx,gS,Nat.pow_succ];exact fX g a.2
  ·rw [nx] at hx ⊢;obtain⟨q,k,hx⟩:=List.mem_flatMap.1 hx;obtain⟨y,n,rfl⟩:=List.mem_map.1 hx;have c:=cho_lt b (Nat.mod_lt _ a.1) q k;have o:=d y n
   calc q*(nx r m l).2.1+y<q*(nx r m l).2.1+(nx r m l).2.1:=oM
    _=(q+1)*(nx r m l).2.1:=by rw [jJ,Nat.one_mul]
    _<=s.st.toNat*(nx r m l).2.1:=jC _ c
    _=(nx r m l).2.1*s.st.toNat:=gF _ _
theorem nx_len (h:∀ s∈ss,Sml s) (m l:Nat):(nx ss m l).1.length<=16 ^ ss.length:=by
 obtain⟨d,a,b,c,_⟩:=nx_facts h m l;exact eJ (zgU c b) a
theorem zaG (a:Nat)(hs:Sm a) (w:World) :
  Calls Tryz.prog 131 #[a] w (zbI w (letters a 6)):=by
 go_enter Tryz.func131,Tryz.ntmps131
 go_wp2
 go_loopw [3,4] (fun v i wr=>∃ k:Nat,k<=6∧i=.int .i64 k∧wr.ownsRow w.heap.size 3 1 v (letters a k).length (zU (letters a k))∧Ext w wr)
  (fun _ i _=>6 - (intOf i).toNat)
 case atStart=>exact⟨0,eD _,rfl,World.ownsRow_lit w #[] 0 (eA _) lM rfl,(dB _).alloc _⟩
 case round =>
  obtain⟨k,j,rfl,b,f⟩:=hrel;have l:=zJ a k
  by_cases hlt:k<6
  ·cases hb:a.testBit k
   all_goals
    have h:=za hb;have d:=zbc a k;rw [hb] at d;have g:=za d;clear d hb;go_wp2_with (first
     |(go_at_call 140;refine (zae a k hs _ oM).mono ?_;rw [h.out];rintro e w' ⟨rfl,rfl⟩)
     |(at_builtin;refine zal w wr rfl _ _ _ rfl 3 _ 1 8 Tryz.underlying128 zai rfl dM u3 _ _ _ _ rfl rfl f b rfl (zaY _) lM oM ?_;intro v' w1 hext1 zjl hg1 hat1))
    go_roundw
    case rel=>exact⟨k+1,oM,gM,by rw [g.out];first|simpa [zU] using zjl|simpa using b,aM⟩
    case measure=>simp [intOf];omega
  ·obtain rfl:k=6:=oM;obtain⟨A,c,rfl⟩:=zi b;go_wp2;go_ret;exact⟨_,_,rfl,b,f⟩
def zdT (b:UInt8):Bool:=decide (97<=(b.toNat:Int)∧(b.toNat:Int)<=102)
def zaT (s:ByteArray):Bool:=decide (s.size<=50000)&&s.data.toList.all zdT
theorem zcf (s:ByteArray) (i:Nat)(h:i<s.size):s.data.toList[i]?=some s[i]:=by
 rw [dC (by simpa using h)];rfl
theorem yV02a1 {P:Prop}(h:P:=by
 go_wp2_with (go_at_call 141;refine (zbR s k hlt _).mono ?_;rw [hx.out];rintro e w' ⟨rfl,rfl⟩)
 go_ret;exact⟨zm (by rw [zaT,zaA hg.out (by have:=hx.out;simp [zdT];omega),Bool.and_false]),rfl⟩
 ):P:=h
theorem zcZ (s:ByteArray) (w:World)(hs:s.size<=9223372036854775807) :
  Calls Tryz.prog 138 #[s] w fun e w'=>e=.returned (.bool (zaT s))∧w=w':=by
 by_cases h:50000<s.size
 ·go_enter Tryz.func138,Tryz.ntmps138
  go_wp2;go_ret;exact⟨by simp [zaT,show ¬ s.size<=50000 by omega],rfl⟩
 ·go_enter Tryz.func138,Tryz.ntmps138
  go_wp2
  go_loop [3] (fun i=>∃ k:Nat,k<=s.size∧i=.int .i64 k∧Hid ((s.data.toList.take k).all zdT=true)) (fun i=>s.size - (intOf i).toNat)
  case atStart=>exact⟨0,eD _,rfl,rfl⟩
  case round =>
   obtain⟨k,d,rfl,a⟩:=hrel
   by_cases hlt:k<s.size
   ·have hg:=za (zcf s k hlt);obtain⟨x,hx,b,c⟩:∃ x:Int,Hid ((s[k].toNat:Int) - 97=x) ∧ -97<=x∧x<=158:=⟨(s[k].toNat:Int) - 97,za rfl,oM,by have:=zim s k hlt;omega⟩
    by_cases h0:x<0
    ·exact yV02a1
    ·by_cases h1:6<=x
     ·exact yV02a1
     ·go_wp2_with (go_at_call 141;refine (zbR s k hlt _).mono ?_;rw [hx.out];rintro e w' ⟨rfl,rfl⟩)
      go_round
      case rel=>exact⟨k+1,oM,gM,zco hg.out a.out (by have:=hx.out;simp [zdT];omega)⟩
      case measure=>simp [intOf];omega
   ·obtain rfl:k=s.size:=oM;go_wp2;go_ret;exact⟨zm (by rw [zaT,zeB sM a.out];simp;omega),rfl⟩
def overB (s:ByteArray) (a:Nat):Bool:=s.data.toList.all fun b=>hasB a (ltr b.toNat)
def rowB (k n:Nat) (row:List Int):Bool:=decide (row.length=k)&&row.all fun q=>decide (0<=q∧q<n)
def zj (a:Aut):Bool:=
 decide (0<=a.al∧a.al<=63)&&(decide (1<=a.next.length∧a.next.length<=12)&&(decide (a.acc.length=a.next.length)&&a.next.all (rowB (letters a.al.toNat 6).length a.next.length)))
theorem zia (lo hi:Nat) (A:Option Addr) (n c:Nat) (l:List Int) (k m:Nat) (w:World)(h:Reads w lo hi 1 A n (ints l))(hk:k<=100) (_hm:m<=100) :
  Calls Tryz.prog 261 #[.slice A n c,k,m] w fun e w'=>e=.returned (.bool (rowB k m l))∧w=w':=by
 have j:=h.len;have f:l.length=n:=by have:=h.length;rw [zbZ] at this;omega
 have b:=za f;clear f
 by_cases he:n=k
 ·subst he
  go_enter Tryz.func261,Tryz.ntmps261
  go_wp2
  go_loop [7] (fun i=>∃ k:Nat,k<=n∧i=.int .i64 k∧Hid ((l.take k).all (fun q=>decide (0<=q∧q<m))=true)) (fun i=>n - (intOf i).toNat)
  case atStart=>exact⟨0,eD _,rfl,rfl⟩
  case round =>
   obtain⟨k,hk,rfl,a⟩:=hrel
   by_cases hlt:k<n
   ·obtain⟨g,x,rfl,_,_,hx,d⟩:=h.int hlt
    by_cases h0:x<0
    ·go_wp2;go_ret;exact⟨zm (by rw [rowB,zaA hx.out (by simp;omega),jT]),rfl⟩
    ·by_cases h1:(m:Int)<=x
     ·go_wp2;go_ret;exact⟨zm (by rw [rowB,zaA hx.out (by simp;omega),jT]),rfl⟩
     ·go_wp2
      go_round
      case rel=>exact⟨k+1,oM,gM,zco hx.out a.out (by simp;omega)⟩
      case measure=>simp [intOf];omega
   ·obtain rfl:k=n:=oM;go_wp2;go_ret;exact⟨zm (by rw [rowB,zeB (oH b.out) a.out,b.out];simp),rfl⟩
 ·go_enter Tryz.func261,Tryz.ntmps261
  go_wp2;go_ret;exact⟨zm (by rw [rowB,b.out];simp [he]),rfl⟩
theorem zQ (lo hi:Nat) (A:Option Addr) (n c:Nat) (A':Option Addr) (n' c':Nat) (a:Aut) (w:World)(h:zC w lo hi A n A' n' a) :
  Calls Tryz.prog 200 #[.agg #[a.al,.slice A n c,.slice A' n' c']] w fun e w'=>e=.returned (.bool (zj a))∧Ext w w':=by
 have x:=h.n1;have y:=h.n2;have q:=za (show zj a=(decide (0<=a.al∧a.al<=63)&&(decide (1<=n∧n<=12)&&(decide (n'=n)&&a.next.all (rowB (letters a.al.toNat 6).length n)))) by unfold zj;rw [← x,← y]);have Q:=h.1.len;have R:=h.2.2.len;clear x y
 by_cases hal:0<=a.al∧a.al<=63
 ·have o:=za (show decide (0<=a.al∧a.al<=63)=true by simp;omega)
  by_cases hn:1<=n∧n<=12
  ·have L:decide ((n:Int)<1)=false:=by simp;omega
   have M:decide (12<(n:Int))=false:=by simp;omega
   by_cases hn':n'=n
   ·subst hn';obtain⟨al,b⟩:∃ al:Nat,Hid (a.al=al):=⟨a.al.toNat,by unfold Hid;omega⟩;have t:Sm al:=by have:=b.out;unfold Sm;omega
    have S:=zJ al 6;rw [b.out];rw [b.out] at o;rw [b.out,fC] at q;clear hal;have z:=fun W (hW:Ext w W)=>h.1.ext hW;have F:=za z;clear z
    go_enter Tryz.func200,Tryz.ntmps200
    go_wp2_with (go_at_call 139;refine (zV _ _).mono ?_;rw [o.out];rintro e w' ⟨rfl,rfl⟩)
    go_loopw [4] (fun i wr=>∃ k:Nat,k<=n'∧i=.int .i64 k∧Hid ((a.next.take k).all (rowB (letters al 6).length n')=true)∧Ext (w.alloc (.cells #[Value.int .i64 al,Value.slice A n' c,Value.slice A' n' c'] 31)) wr)
     (fun i _=>n' - (intOf i).toNat)
    case atStart=>exact⟨0,eD _,rfl,rfl,dB _⟩
    case round =>
     obtain⟨k,Z,rfl,g,f⟩:=hrel;have B:∀ W,Ext wr W->∀ j,W.cell? ⟨w.heap.size,j,none⟩=#[Value.int .i64 al,Value.slice A n' c,Value.slice A' n' c'][j]?:=fun W hW=>zbY (f.trans hW)
     by_cases hlt:k<n'
     ·obtain⟨G,E,I,l,rfl,T,O,C,m,s⟩:=(F.out wr (((dB _).alloc _).trans f)).row hlt;have J:∀ W,Ext wr W->W.cell? (G.add k)=some (.slice E l.length I):=fun W hW=>hW.aa m;have V:=dB wr;have u:∀ W,Ext wr W->Ext w W:=fun W hW=>(((dB _).alloc _).trans f).trans hW;have r:=za u;clear u;cases hrb:rowB (letters al 6).length n' l
      ·have d:=za hrb;clear hrb;go_wp2_with fail
       go_region_held3 (fun W=>Ext wr W) (first|assumption|(refine fW ?_;assumption)|(refine e8 ?_ aM;assumption)|(refine e8 ?_ aM;refine fW ?_;assumption)) (first|(go_at_call 131;refine (zaG _ t _).mono ?_;rintro e X ⟨D,H,rfl,v,p⟩)|(go_at_call 261;refine (zia _ _ _ _ _ _ _ _ _ (s.ext ?_) oM oM).mono ?_;assumption;rw [d.out];rintro e Y ⟨rfl,rfl⟩))
       go_wp2;go_ret;exact⟨zm (by rw [q.out,zaA C.out d.out];simp),r.out _ aM⟩
      ·have d:=za hrb;clear hrb;go_wp2_with fail
       go_region_held3 (fun W=>Ext wr W) (first|assumption|(refine fW ?_;assumption)|(refine e8 ?_ aM;assumption)|(refine e8 ?_ aM;refine fW ?_;assumption)) (first|(go_at_call 131;refine (zaG _ t _).mono ?_;rintro e X ⟨D,H,rfl,v,p⟩)|(go_at_call 261;refine (zia _ _ _ _ _ _ _ _ _ (s.ext ?_) oM oM).mono ?_;assumption;rw [d.out];rintro e Y ⟨rfl,rfl⟩))
       go_wp2;go_roundw
       case rel=>exact⟨k+1,oM,gM,zco C.out g.out d.out,f.trans aM⟩
       case measure=>simp [intOf];omega
     ·obtain rfl:k=n':=oM;go_wp2;go_ret;exact⟨zm (by rw [q.out,zeB (oH h.n1) g.out,o.out];simp;omega),((dB _).alloc _).trans f⟩
   ·have U:((n':Int) != (n:Int))=true:=by simp;omega
    go_enter Tryz.func200,Tryz.ntmps200
    go_wp2_with (go_at_call 139;refine (zV _ _).mono ?_;rw [o.out];rintro e w' ⟨rfl,rfl⟩)
    go_ret;exact⟨zm (by rw [q.out];simp [hn']),(dB _).alloc _⟩
  ·go_enter Tryz.func200,Tryz.ntmps200
   go_wp2_with (go_at_call 139;refine (zV _ _).mono ?_;rw [o.out];rintro e w' ⟨rfl,rfl⟩)
   all_goals go_ret
   all_goals exact⟨zm (by rw [q.out];simp [hn]),(dB _).alloc _⟩
 ·go_enter Tryz.func200,Tryz.ntmps200
  have o:decide (0<=a.al∧a.al<=63)=false:=by simp;omega
  go_wp2_with (go_at_call 139;refine (zV _ _).mono ?_;rw [o];rintro e w' ⟨rfl,rfl⟩)
  go_ret;exact⟨zm (by rw [q.out];simp;omega),(dB _).alloc _⟩
def place (a l:Nat):Nat:=(letters a l).length
def aGo (a:Aut) (q l:Nat):Nat:=if a.al.toNat.testBit l then ((a.next.getD q []).getD (place a.al.toNat l) 0).toNat else q
abbrev Mem:=Nat × (Nat->Nat->List Nat)
def zdv (s:Sys):Mem:=(s.st.toNat,cho s)
def zbl (a:Aut):Mem:=(a.next.length,fun q l=>[aGo a q l])
def zah:List Nat->Nat
 |[]=>1
 |m :: r=>m*zah r
def zD (ms:List Mem):Nat:=zah (ms.map Prod.fst)
theorem zdo (m:Mem) (r:List Mem):zD (m :: r)=m.1*zD r:=rfl
theorem zcS (a b:List Nat):zah (a++b)=zah a*zah b:=by
 induction a with
 |nil=>simp [zah]
 |cons x r ih=>rw [List.cons_append,zah,zah,ih,jD]
theorem zbD (a b:List Mem):zD (a++b)=zD a*zD b:=by
 unfold zD;rw [fB,zcS]
theorem prodS_pos {l:List Nat}(h:∀ x∈l,1<=x):1<=zah l:=by
 induction l with
 |nil=>simp [zah]
 |cons x r ih=>exact Nat.mul_pos (h x sM) (ih fun y hy=>h y (by simp [hy]))
def dec:List Nat->Nat->List Nat
 |[],_=>[]
 |s :: r,x=>(x / zah r % s) :: dec r x
theorem zdf (l:List Nat) (x:Nat):(dec l x).length=l.length:=by
 induction l with
 |nil=>rfl
 |cons s r ih=>simp [dec,ih]
theorem zir {l:List Nat} {s:Nat}(h:l[k]?=some s):(dec l x)[k]?=some (x / zah (l.drop (k+1)) % s):=by
 induction l generalizing k with
 |nil=>simp at h
 |cons t r ih =>
  cases k with
  |zero=>simp at h;subst h;simp [dec]
  |succ k=>simp at h;simpa [dec] using ih h
def encF (acc:Nat):List Nat->List Nat->Nat
 |s :: r,x :: xs=>encF (acc*s+x) r xs
 |_,_=>acc
def pnx:List Mem->Nat->Nat->List Nat
 |[],_,_=>[0]
 |m :: r,x,l=>(m.2 (x / zD r % m.1) l).flatMap fun q=>(pnx r x l).map fun y=>q*zD r+y
def zdL (m:Mem):Prop:=1<=m.1∧∀ q l,q<m.1->l<6->∀ x∈m.2 q l,x<m.1
theorem zfq {ms:List Mem}(h:∀ m∈ms,zdL m):1<=zD ms:=prodS_pos fun x hx=>by
 obtain⟨m,hm,rfl⟩:=List.mem_map.1 hx
 exact (h m hm).1
theorem zhW {ms:List Mem}(h:∀ m∈ms,zdL m) (hl:l<6):∀ y∈pnx ms x l,y<zD ms:=by
 induction ms with
 |nil=>intro y a;simp [pnx] at a;subst a;simp [zD,zah]
 |cons m r ih =>
  intro y a;rw [pnx] at a;obtain⟨q,c,a⟩:=List.mem_flatMap.1 a;obtain⟨z,d,rfl⟩:=List.mem_map.1 a;have b:=(h m sM).2 _ l (Nat.mod_lt _ (h m sM).1) hl q c;have f:=ih (fun m hm=>h m (by simp [hm])) z d;rw [zdo]
  calc q*zD r+z<q*zD r+zD r:=oM
   _=(q+1)*zD r:=by rw [jJ,Nat.one_mul]
   _<=m.1*zD r:=jC _ b
theorem zfM (a b:List Mem) (x l:Nat):pnx (a++b) x l=(pnx a (x / zD b) l).flatMap fun q=>(pnx b x l).map fun y=>q*zD b+y:=by
 induction a with
 |nil=>simp [pnx]
 |cons m r ih =>
  rw [List.cons_append,pnx,pnx,ih,zbD,List.flatMap_assoc];rw [jP,gF (zD b) (zD r)]
  congr 1
  funext q
  rw [List.map_flatMap,List.flatMap_map]
  congr 1
  funext z
  rw [List.map_map]
  congr 1
  funext y
  simp only [Function.comp];rw [jJ,jD,fV]
theorem nx_pnx (ss:List Sys) (m l:Nat):nx ss m l=(pnx (ss.map zdv) m l,zD (ss.map zdv),m / zD (ss.map zdv)):=by
 induction ss with
 |nil=>simp [nx,pnx,zD,zah]
 |cons s r ih =>
  rw [nx,ih,gJ,pnx,zdo];simp only [zdv];rw [jP,gF (zD _) s.st.toNat]
theorem pnx_two (a p:Aut) (x l:Nat):pnx [zbl a,zbl p] x l=[aGo a (x / p.next.length % a.next.length) l*p.next.length+aGo p (x % p.next.length) l]:=by
 simp [pnx,zbl,zD,zah]
theorem pnx_one (p:Aut) (x l:Nat):pnx [zbl p] x l=[aGo p (x % p.next.length) l]:=by
 simp [pnx,zbl,zD,zah]
theorem pnx_under (ss:List Sys) (a p:Aut) (x l:Nat) :
  pnx (ss.map zdv++[zbl a,zbl p]) x l=(nx ss (x / p.next.length / a.next.length) l).1.map fun y=>y*a.next.length*p.next.length+(aGo a (x / p.next.length % a.next.length) l*p.next.length+aGo p (x % p.next.length) l):=by
 have b:zD [zbl a,zbl p]=a.next.length*p.next.length:=by simp [zD,zah,zbl]
 rw [zfM,pnx_two,nx_pnx,b,jP,gF p.next.length a.next.length];simp only [gJ,List.map_nil,← List.map_eq_flatMap,jD]
def free:Aut:=⟨0,[[]],[true]⟩
theorem pnx_free (ss:List Sys) (p:Aut) (x l:Nat):pnx (ss.map zdv++[zbl free,zbl p]) x l=pnx (ss.map zdv++[zbl p]) x l:=by
 have a:∀ q l,aGo free q l=q:=fun q l=>by simp [aGo,free]
 rw [zfM,zfM,pnx_two,pnx_one,a];have b:zD [zbl free,zbl p]=p.next.length:=by simp [zD,zah,zbl,free]
 have c:zD [zbl p]=p.next.length:=by simp [zD,zah,zbl]
 rw [b,c];have d:free.next.length=1:=rfl;rw [d,Nat.mod_one,jY,eS]
def fwd (cs:List (Nat × List Nat)):List Nat:=cs.foldl (fun out c=>out.flatMap fun o=>c.2.map fun x=>o*c.1+x) [0]
theorem zix (cs:List (Nat × List Nat)) (c:Nat × List Nat):fwd (cs++[c])=(fwd cs).flatMap fun o=>c.2.map fun x=>o*c.1+x:=by simp [fwd]
def chs:List Mem->Nat->Nat->List (Nat × List Nat)
 |[],_,_=>[]
 |m :: r,x,l=>(m.1,m.2 (x / zD r % m.1) l) :: chs r x l
theorem zfF (ms:List Mem) (x l:Nat):(chs ms x l).length=ms.length:=by
 induction ms with
 |nil=>rfl
 |cons m r ih=>simp [chs,ih]
theorem chs_get {ms:List Mem}  {m:Mem}(h:ms[k]?=some m):(chs ms x l)[k]?=some (m.1,m.2 (x / zD (ms.drop (k+1)) % m.1) l):=by
 induction ms generalizing k with
 |nil=>simp at h
 |cons t r ih =>
  cases k with
  |zero=>simp at h;subst h;simp [chs]
  |succ k=>simp at h;simpa [chs] using ih h
theorem foldl_pnx (ms:List Mem) (x l:Nat) (out:List Nat):(chs ms x l).foldl (fun out c=>out.flatMap fun o=>c.2.map fun x=>o*c.1+x) out=out.flatMap fun o=>(pnx ms x l).map fun y=>o*zD ms+y:=by
 induction ms generalizing out with
 |nil=>simp [chs,pnx,zD,zah]
 |cons m r ih =>
  rw [chs,iZ,ih,pnx,List.flatMap_assoc]
  congr 1
  funext o
  rw [List.flatMap_map,List.map_flatMap]
  congr 1
  funext q
  rw [List.map_map]
  congr 1
  funext y
  simp only [Function.comp,zdo];rw [jJ,jD,fV]
theorem fwd_pnx (ms:List Mem) (x l:Nat):fwd (chs ms x l)=pnx ms x l:=by
 have:=foldl_pnx ms x l [0];simpa [fwd] using this
theorem flat_len {α β:Type} {l:List α} {f:α->List β} (h:∀ x∈l,(f x).length<=k):(l.flatMap f).length<=l.length*k:=by
 induction l with
 |nil=>simp
 |cons x r ih =>
  have a:=ih fun y hy=>h y (by simp [hy]);have b:=h x sM;rw [j9,eO,gS,jJ,Nat.one_mul];omega
theorem fwd_len {cs:List (Nat × List Nat)}(h:∀ c∈cs,c.2.length<=c.1):(fwd cs).length<=zah (cs.map Prod.fst):=by
 have a:∀ n,n<=cs.length->(fwd (cs.take n)).length<=zah ((cs.take n).map Prod.fst):=by
  intro n
  induction n with
  |zero=>intro _;simp [fwd,zah]
  |succ n ih =>
   intro hn;have b:cs[n]?=some cs[n]:=dC oM;rw [eH,b];simp only [e7];rw [zix,fB,zcS];refine eJ (flat_len (k:=(cs[n]).2.length) fun x _=>sM) ?_;refine fX (ih oM) ?_;simpa [zah] using h cs[n] (gQ _)
 have:=a cs.length (eA _);rwa [fI] at this
theorem fwd_lt {cs:List (Nat × List Nat)}(h:∀ c∈cs,∀ x∈c.2,x<c.1):∀ y∈fwd cs,y<zah (cs.map Prod.fst):=by
 have b:∀ n,n<=cs.length->∀ y∈fwd (cs.take n),y<zah ((cs.take n).map Prod.fst):=by
  intro n
  induction n with
  |zero=>intro _ y a;simp [fwd] at a;subst a;simp [zah]
  |succ n ih =>
   intro hn y a;have f:cs[n]?=some cs[n]:=dC oM;rw [eH,f] at a ⊢;simp only [e7] at a ⊢;rw [zix] at a;rw [fB,zcS];obtain⟨o,g,a⟩:=List.mem_flatMap.1 a;obtain⟨x,hx,rfl⟩:=List.mem_map.1 a;have d:=ih oM o g;have i:=h cs[n] (gQ _) x hx;simp only [gJ,List.map_nil,zah,jK]
   calc o*(cs[n]).1+x<o*(cs[n]).1+(cs[n]).1:=oM
    _=(o+1)*(cs[n]).1:=by rw [jJ,Nat.one_mul]
    _<=_:=jC _ d
 have:=b cs.length (eA _);rwa [fI] at this
theorem zdZ (h:Sml s):zdL (zdv s):=⟨by have:=h.1;simp only [zdv];omega,fun q l hq hl x hx=>cho_lt h hq x hx⟩
theorem zk {a:Aut}(h:zj a=true):(0<=a.al∧a.al<=63)∧(1<=a.next.length∧a.next.length<=12)∧a.acc.length=a.next.length∧∀ (q:Nat) (row:List Int),a.next[q]?=some row->row.length=(letters a.al.toNat 6).length∧∀ x∈row,0<=x∧x<a.next.length:=by
 simp only [zj,eG,decide_eq_true_eq,fF] at h;obtain⟨b,c,d,f⟩:=h;refine⟨b,c,d,fun q row hr=>?_⟩;have:=f row (eB hr);simp only [rowB,eG,decide_eq_true_eq,fF] at this;exact this
theorem place_lt (hl:l<6)(hb:a.testBit l=true):place a l<(letters a 6).length:=by
 have b:∀ n,l+1<=n->place a l<(letters a n).length:=by
  intro n
  induction n with
  |zero=>intro h;omega
  |succ n ih =>
   intro h;rw [zbc,eO]
   by_cases e:n=l
   ·subst e;simp [place,hb]
   ·have:=ih oM;omega
 exact b 6 oM
theorem zdc {a:Aut}(h:zj a=true) (hq:q<a.next.length)(hl:l<6):aGo a q l<a.next.length:=by
 obtain⟨_,_,_,g⟩:=zk h;unfold aGo;split
 ·rename_i hb;have b:a.next[q]?=some a.next[q]:=dC hq;obtain⟨d,f⟩:=g q _ b;have c:=place_lt hl hb;rw [← d] at c;have hx:=f _ (gQ c);simp only [eF,b,gE,dC c];omega
 ·exact hq
theorem zbm {a:Aut}(h:zj a=true):zdL (zbl a):=⟨(zk h).2.1.1,fun q l hq hl x hx=>by
 simp only [zbl,fS] at hx ⊢
 subst hx
 exact zdc h hq hl⟩
theorem zdg:zj free=true:=dM
theorem wrap_pow2 (ht:t<32):wrap64 ((2:Int) ^ t)=((2 ^ t:Nat):Int):=by
 have a:=(Sm.bit ht).lt;have e:(2:Int) ^ t=((2 ^ t:Nat):Int):=sM;rw [e];generalize (2:Nat) ^ t=p at *;unfold wrap64;omega
theorem zfR (n:Nat)(hn:n<32) (w:World) :
  Calls Tryz.prog 241 #[n] w fun e w'=>e=.returned (.int .i64 (2 ^ n:Nat))∧w=w':=by
 have c:IntKind.u64.wrap (n:Int)=n:=by rw [IntKind.wrap_u64];omega
 have a:(n:Int)<=64:=oM;have b:=za (wrap_pow2 hn)
 go_enter Tryz.func241,Tryz.ntmps241
 go_wp2;go_ret;exact⟨zG (by rw [← b.out]),rfl⟩
def zbU (es:List Edg) (set:Nat) (l:Int):Nat:=es.foldl (fun m e=>if e.le=l∧set.testBit e.fr.toNat=true then m|||2 ^ e.ta.toNat else m) 0
theorem stepB_snoc (es:List Edg) (e:Edg) (set:Nat) (l:Int):zbU (es++[e]) set l=if e.le=l∧set.testBit e.fr.toNat=true then zbU es set l|||2 ^ e.ta.toNat else zbU es set l:=by simp [zbU]
theorem zdt (es:List Edg) (set:Nat) (l:Int) (k:Nat):(zbU es set l).testBit k=true↔∃ e∈es,(e.le=l∧set.testBit e.fr.toNat=true)∧e.ta.toNat=k:=by
 have:=foldl_bit es (fun e=>e.le=l∧set.testBit e.fr.toNat=true) 0 k;simpa [zbU] using this
theorem stepB_lt (h:Few n es) (set:Nat) (l:Int):zbU es set l<2 ^ n:=by
 apply j0;intro k hk;rw [fQ];intro hb;obtain⟨e,a,_,b⟩:=(zdt es set l k).1 hb;have:=h e a;omega
theorem zhd {set:Nat} {l:Int} {k0:Nat} (h:zN w lo hi A n s)(hf:Few k0 s.edges)(hk0:k0<=16)(hset:Sm set) :
  Calls Tryz.prog 221 #[.agg #[s.al,s.st,.slice A n c],set,l] w fun e w'=>e=.returned (.int .i64 (zbU s.edges set l:Nat))∧Ext w w':=by
 have X:=h.2.len;have M:=za h.1;have F:=za (fun W (hW:Ext w W)=>h.2.ext hW);have G:=za hf;clear hf
 go_enter Tryz.func221,Tryz.ntmps221
 go_wp2
 go_loopw [7,8] (fun v i wr=>∃ k:Nat,k<=n∧i=.int .i64 k∧∃ y:Nat,v=.int .i64 y∧Sm y∧Hid (y=zbU (s.edges.take k) set l)∧Ext w wr∧Ext (w.alloc (.cells #[s.al,s.st,.slice A n c] 38)) wr) (fun _ i _=>n - (intOf i).toNat)
 case atStart=>exact⟨0,eD _,rfl,0,rfl,tM,rfl,(dB _).alloc _,dB _⟩
 case round =>
  obtain⟨k,V,rfl,y,rfl,D,g,d,a⟩:=hrel;have S:=fun j=>zbY (j:=j) a
  by_cases hlt:k<n
  ·obtain⟨b,o,x,rfl,_,_,hx,H,R,I⟩:=(F.out wr d).ar hlt;obtain⟨⟨J,L⟩,⟨T,U⟩,⟨O,Q⟩⟩:=G.out x (eB hx.out);have p:=za (show s.edges.take (k+1)=s.edges.take k++[x] by rw [eH,hx.out];rfl);obtain⟨f,q⟩:∃ f:Nat,x.fr=f:=⟨x.fr.toNat,oM⟩;obtain⟨t,B⟩:∃ t:Nat,x.ta=t:=⟨x.ta.toNat,oM⟩;rw [q] at H J L;rw [B] at I O Q;have r:=za (stepB_snoc (s.edges.take k) x set l)
   by_cases hle:x.le=l
   ·have z:(x.le==l)=true:=by simp [hle]
    have m:=za hle;clear hle;cases hb:set.testBit f
    ·have u:=za hb;clear hb;go_wp2_with (go_at_call 140;refine (zae set f hset _ oM).mono ?_;rw [u.out];rintro e w' ⟨rfl,rfl⟩)
     go_roundw
     case rel=>exact⟨k+1,oM,gM,y,rfl,D,by unfold Hid;rw [p.out,r.out,if_neg (by rintro ⟨_,C⟩;rw [q] at C;simp [u.out] at C)];exact g.out,d,a⟩
     case measure=>simp [intOf];omega
    ·have u:=za hb;clear hb;have E:=za (show bits .or .i64 (y:Nat) ((2:Int) ^ t)=((y|||2 ^ t:Nat):Int) by have:=zaV D (Sm.bit (n:=t) oM);rw [show (((2:Nat) ^ t:Nat):Int)=(2:Int) ^ t by simp] at this;exact this);go_wp2_with (first
      |(go_at_call 140;refine (zae set f hset _ oM).mono ?_;rw [u.out];rintro e w' ⟨rfl,rfl⟩)
      |(go_at_call 241;refine (zfR t oM _).mono ?_;rintro e w' ⟨rfl,rfl⟩))
     go_roundw
     case rel=>exact⟨k+1,oM,gM,y|||2 ^ t,by rw [E.out],D.or (Sm.bit oM),by unfold Hid;rw [p.out,r.out,if_pos ⟨m.out,by rw [q];simpa using u.out⟩,← g.out,B];rfl,d,a⟩
     case measure=>simp [intOf];omega
   ·have z:(x.le==l)=false:=by simp [hle]
    have m:=za hle;clear hle;go_wp2;go_roundw
    case rel=>exact⟨k+1,oM,gM,y,rfl,D,by unfold Hid;rw [p.out,r.out,if_neg (by rintro ⟨C,_⟩;exact m.out C)];exact g.out,d,a⟩
    case measure=>simp [intOf];omega
  ·obtain rfl:n=k:=oM;go_wp2;go_ret;exact⟨zG (by rw [g.out,M.out,fI]),d⟩
def MovAt (w:World) (b:Nat) (es:List Edg):Prop:=∀ i l:Nat,i<16->l<6->w.cell? ⟨b,i*6+l,none⟩=some (.int .i64 (succ es i l:Nat))
theorem MovAt.ext (h:MovAt w b es)(hb:Ext w w'):MovAt w' b es:=fun i l hi hl=>hb.aa (h i l hi hl)
theorem bits_andNot (ha:Sm a)(hb:Sm b):bits .andNot .i64 (a:Int) (b:Int)=(diff a b:Nat):=by
 have c:=ha.lt;have d:=hb.lt;have f:=diff_le a b;show IntKind.i64.wrap ((BitVec.ofInt 64 (a:Int)&&&~~~ BitVec.ofInt 64 (b:Int)).toNat:Int)=_;have e:(BitVec.ofInt 64 (a:Int)&&&~~~ BitVec.ofInt 64 (b:Int)).toNat=diff a b:=by
  apply gI;intro k;rw [zis,BitVec.toNat_and,gP,zdi a oM,BitVec.testBit_toNat,BitVec.getLsbD_not,← BitVec.testBit_toNat,zdi b oM]
  by_cases hk:k<64
  ·simp [hk]
  ·simp only [hk,decide_false,Bool.false_and,jT];rw [zfw ha oM];rfl
 rw [e,IntKind.wrap_i64];omega
def MovB (w:World) (b:Nat) (es:List Edg):Prop:=∃ cs,Blk w b 282 cs∧∀ i l:Nat,i<16->l<6->cs[i*6+l]?=some (.int .i64 (succ es i l:Nat))
theorem MovB.at_ (h:MovB w b es):MovAt w b es:=by
 obtain⟨d,a,c⟩:=h;exact fun i l hi hl=>by rw [a.cell,c i l hi hl]
theorem MovB.ext (h:MovB w b es)(hx:Ext w w'):MovB w' b es:=by
 obtain⟨a,c,d⟩:=h;exact⟨a,c.ext hx,d⟩
theorem zero_mov (w:World):(zeroValue 282).run Tryz.prog w=.ok (.agg (Array.replicate 96 (.int .i64 0))) w:=kM
theorem wrap_pow (ht:t<32):wrap64 ((2:Int) ^ t)=((2 ^ t:Nat):Int):=by
 have a:=(Sm.bit ht).lt;have e:(2:Int) ^ t=((2 ^ t:Nat):Int):=sM;rw [e];generalize (2:Nat) ^ t=p at *;unfold wrap64;omega
theorem mov_store {f:Nat}(hcs:∀ i l:Nat,i<16->l<6->cs[i*6+l]?=some (.int .i64 (succ es i l:Nat)))(hs:Sm (succ es f g))(ht:t<16)(hf:f<16)(hg:g<6)(hi:i<16)(hl:l<6) :
  (cs.setIfInBounds (f*6+g) (.int .i64 (bits .or .i64 (succ es f g:Nat) (wrap64 (2 ^ t)))))[i*6+l]?=some (.int .i64 ((if (f:Int)=i∧(g:Int)=l then succ es i l|||2 ^ (t:Int).toNat else succ es i l:Nat))):=by
 rw [wrap_pow oM,zaV hs (Sm.bit oM),Array.getElem?_setIfInBounds]
 by_cases he:f*6+g=i*6+l
 ·have c:f=i:=oM;have d:g=l:=oM;subst c;subst d;have b:f*6+g<cs.size:=by
   rcases fK (f*6+g) cs.size with a|a
   ·exact a
   ·have:=hcs f g hf hg;rw [Array.getElem?_eq_none a] at this;cases this
  rw [if_pos rfl,if_pos b,if_pos ⟨rfl,rfl⟩];rfl
 ·rw [if_neg he,hcs i l hi hl,if_neg];rintro ⟨a,h⟩;exact he oM
theorem zdR (h:zN w lo hi A n s)(hf:Few 16 s.edges) :
  Calls Tryz.prog 227 #[.agg #[s.al,s.st,.slice A n c]] w fun e w'=>∃ b,e=.returned (.pointer (some ⟨b,0,none⟩))∧w.heap.size<=b∧MovB w' b s.edges∧Ext w w':=by
 have hn:=h.2.len;have hL:=za h.1;have O:=fun W (hW:Ext w W)=>h.2.ext hW;have V:=za O;clear O;have J:=za hf;clear hf
 go_enter Tryz.func227,Tryz.ntmps227
 have S:=zero_mov;generalize hzz:Array.replicate 96 (Value.int .i64 0)=U at S;have Y:=za hzz;clear hzz;go_wp2_with (simp only [S])
 go_loopw [10] (fun i wr=>∃ k:Nat,k<=n∧i=.int .i64 k∧MovB wr (w.heap.size+1) (s.edges.take k)∧Ext w wr) (fun i _=>n - (intOf i).toNat)
 case atStart=>exact⟨0,eD _,rfl,⟨U,by have:=Blk.new (w.alloc (.cells #[s.al,s.st,.slice A n c] 38)) 282 U;simpa using this,fun i l hi hl=>by rw [← Y.out,Array.getElem?_replicate,if_pos oM];rfl⟩,((dB _).alloc _).alloc _⟩
 case round =>
  obtain⟨k,hk,rfl,d,q⟩:=hrel
  by_cases hlt:k<n
  ·obtain⟨b,o,x,rfl,ai,ah,hx,Z,c1,c2⟩:=(V.out wr q).ar hlt;obtain⟨⟨L,C⟩,⟨M,D⟩,⟨T,E⟩⟩:=J.out x (eB hx.out);obtain⟨f,hf⟩:∃ f:Nat,x.fr=f:=⟨x.fr.toNat,oM⟩;obtain⟨g,hg⟩:∃ g:Nat,x.le=g:=⟨x.le.toNat,oM⟩;obtain⟨t,R⟩:∃ t:Nat,x.ta=t:=⟨x.ta.toNat,oM⟩;rw [hf] at Z L C;rw [hg] at c1 M D;rw [R] at c2 T E;have v:f<16:=oM;have y:g<6:=oM;have I:t<16:=oM;clear L C M D T E;obtain⟨cs,r,u⟩:=d;have H:Sm (succ (s.edges.take k) f g):=succ_sm (n:=16) (fun e he=>J.out e (List.mem_of_mem_take he)) oM f g;go_wp2;have z:=(dB wr).alloc (.cells #[f,g,t] 152);have m:=Blk.new wr 152 #[f,g,t];generalize hq:wr.alloc _=p at *;clear hq;have a:=r.ext z;have hd:p.cell? ⟨w.heap.size+1,f*6+g,none⟩=some (.int .i64 (succ (s.edges.take k) f g:Nat)):=by rw [a.cell,u f g v y]
   have G:=a.frozen (f*6+g);have q0:=m.cell 0;have q1:=m.cell 1;have q2:=m.cell 2
   go_still_tail 16,(by kernel_rfl)
   have C:(f:Int)<16:=oM;have D:(g:Int)<6:=oM;have E:(t:Int)<=64:=oM
   repeat (refine wpStill_step (fun K hK=>?_);go_simp;(try simp only [C,D,E,if_true]);refine hK _ ?_;clear hK K)
   refine wpStill_nil ?_;change wpList _ _ _ _ _ p.drew;have ag:p.drew.cell? ⟨w.heap.size+1,f*6+g,none⟩=some (.int .i64 (succ (s.edges.take k) f g:Nat)):=hd;have Q:p.drew.frozen? ⟨w.heap.size+1,f*6+g,none⟩=false:=G;have j:Blk p.drew (w.heap.size+1) 282 cs:=a;have B:Ext wr p.drew:=z.drew;generalize p.drew=w2 at *;have X:=za (succ_snoc (s.edges.take k) x);have F:=za (show s.edges.take (k+1)=s.edges.take k++[x] by rw [eH,hx.out];rfl);go_wp2;go_roundw
   case rel=>exact⟨k+1,oM,gM,⟨_,j.ab (f*6+g) _,fun i l hi hl=>by
    rw [F.out,X.out,hf,hg,R];exact mov_store u H I v y hi hl⟩,(q.trans B).setCell (by dsimp only;omega) _⟩
   case measure=>simp [intOf];omega
  ·obtain rfl:k=n:=oM;go_wp2;go_ret;rw [hL.out,fI] at d;exact⟨_,rfl,oM,d,q⟩
theorem zgr (R:List Nat) (i v:Nat):zU (R.set i v)=(zU R).set i (.int .i64 (v:Nat)):=by simp [zU,List.map_set]
def zio (x y:Int):Int:=if x<y then -1 else if y<x then 1 else 0
theorem cmp_isNaN (x:Int) (w:World):Calls Tryz.prog 278 #[x] w fun e w'=>e=.returned (.bool false)∧w=w':=by
 have h:(x != x)=false:=sM
 go_enter Tryz.func278,Tryz.ntmps278
 go_wp2;go_ret;exact⟨zm sM,rfl⟩
theorem cmp_Compare (x y:Int) (w:World):Calls Tryz.prog 248 #[x,y] w fun e w'=>e=.returned (.int .i64 (zio x y))∧w=w':=by
 by_cases h:x<y
 ·go_enter Tryz.func248,Tryz.ntmps248
  go_wp2_with (go_at_call 278;refine (cmp_isNaN _ _).mono ?_;rintro e w' ⟨rfl,rfl⟩)
  go_ret;exact⟨zG (by unfold zio;split<;>omega),rfl⟩
 ·by_cases h':y<x
  all_goals
   go_enter Tryz.func248,Tryz.ntmps248
   go_wp2_with (go_at_call 278;refine (cmp_isNaN _ _).mono ?_;rintro e w' ⟨rfl,rfl⟩)
   go_ret;exact⟨zG (by unfold zio;(repeat' split)<;>omega),rfl⟩
def orI:List Int->Int
 |[]=>0
 |x :: r=>if x=0 then orI r else x
theorem orI_stop {l:List Int}  {x:Int}(h:l[k]?=some x)(hk:∀ y∈l.take k,y=0)(hx:x≠0):orI l=x:=by
 induction l generalizing k with
 |nil=>simp at h
 |cons a r ih =>
  cases k with
  |zero=>simp at h;subst h;rw [orI,if_neg hx]
  |succ k =>
   have b:a=0:=hk a sM;rw [orI,if_pos b];exact ih (by simpa using h) (fun y hy=>hk y (by simp [hy]))
theorem orI_end {l:List Int}(hk:∀ y∈l,y=0):orI l=0:=by
 induction l with
 |nil=>rfl
 |cons a r ih=>rw [orI,if_pos (hk a sM),ih fun y hy=>hk y (by simp [hy])]
theorem cmp_Or {l:List Int} (h:Reads w lo hi 1 A n (ints l)) :
  Calls Tryz.prog 247 #[.slice A n c] w fun e w'=>e=.returned (.int .i64 (orI l))∧w=w':=by
 have p:=h.len;have f:=za (show l.length=n by have:=h.length;rw [zbZ] at this;omega)
 go_enter Tryz.func247,Tryz.ntmps247
 go_wp2
 go_loop [8] (fun i=>∃ k:Nat,k<=n∧i=.int .i64 k∧Hid (∀ y∈l.take k,y=0)) (fun i=>n - (intOf i).toNat)
 case atStart=>exact⟨0,eD _,rfl,za sM⟩
 case round =>
  obtain⟨k,o,rfl,b⟩:=hrel
  by_cases hlt:k<n
  ·obtain⟨j,x,rfl,_,_,hx,m⟩:=h.int hlt
   by_cases h0:x=0
   ·have g:((x:Int) != 0)=false:=by simp [h0]
    have d:=za h0;clear h0;go_wp2
    go_round
    case rel=>exact⟨k+1,oM,gM,za (by rw [eH,hx.out];intro y a;simp at a;rcases a with a|a;exact b.out y a;rw [a,d.out])⟩
    case measure=>simp [intOf];omega
   ·have g:((x:Int) != 0)=true:=by simp [h0]
    go_wp2;go_ret;exact⟨zG (orI_stop hx.out b.out h0).symm,rfl⟩
  ·obtain rfl:k=n:=oM;go_wp2;go_ret;have:=b.out;rw [List.take_of_length_le (oH f.out)] at this;exact⟨zG (orI_end this).symm,rfl⟩
def cmpE (a b:Edg):Int:=orI [zio a.fr b.fr,zio a.le b.le,zio a.ta b.ta]
def ltE (a b:Edg):Bool:=if a.fr=b.fr then if a.le=b.le then decide (a.ta<b.ta) else decide (a.le<b.le) else decide (a.fr<b.fr)
theorem cmpE_lt (a b:Edg):cmpE a b<0↔ltE a b=true:=by
 have f:∀ x y:Int,(zio x y=0↔x=y)∧(zio x y<0↔x<y):=fun x y=>by unfold zio;constructor<;>(repeat' split)<;>omega
 have c:=f a.fr b.fr;have d:=f a.le b.le;have g:=f a.ta b.ta;have i:cmpE a b=if zio a.fr b.fr=0 then if zio a.le b.le=0 then if zio a.ta b.ta=0 then 0 else zio a.ta b.ta else zio a.le b.le else zio a.fr b.fr:=rfl;rw [i,ltE]
 by_cases e1:a.fr=b.fr
 ·rw [if_pos (c.1.2 e1),if_pos e1]
  by_cases e2:a.le=b.le
  ·rw [if_pos (d.1.2 e2),if_pos e2]
   by_cases e3:zio a.ta b.ta=0
   ·rw [if_pos e3];have:=g.1.1 e3;simp;omega
   ·rw [if_neg e3,g.2];simp
  ·rw [if_neg (fun h=>e2 (d.1.1 h)),if_neg e2,d.2];simp
 ·rw [if_neg (fun h=>e1 (c.1.1 h)),if_neg e1,c.2];simp
theorem reads_lit {t:TypeId} (n:Nat) (l:List Int)(hc:cs.toList=ints l)(hl:l.length=n)(hn:n<=1000)(h:Ext (w.alloc (.cells cs t)) w'):Reads w' 0 w'.heap.size 1 (some ⟨w.heap.size,0,none⟩) n (ints l):=by
 have a:=zej h;refine⟨by rw [zbZ];omega,oM,fun _=>⟨_,rfl,eD _,a.lt,fun j u hu=>?_⟩⟩;rw [zaI,eS,a.cell,← Array.getElem?_toList,hc];exact hu
theorem zdk {a b:Edg}  :
  Calls Tryz.prog 187 #[.agg #[a.fr,a.le,a.ta],.agg #[b.fr,b.le,b.ta]] w fun e w'=>e=.returned (.int .i64 (cmpE a b))∧Ext w w':=by
 go_enter Tryz.func187,Tryz.ntmps187
 go_wp2_with fail
 obtain⟨W,c⟩:∃ W:World,W=(w.alloc (.cells #[Value.int .i64 a.fr,a.le,a.ta] 152)).alloc (.cells #[Value.int .i64 b.fr,b.le,b.ta] 152):=⟨_,rfl⟩;have hx:Ext w W:=by rw [c];exact ((dB _).alloc _).alloc _
 have d:=zH (show Ext ((w.alloc (.cells #[Value.int .i64 a.fr,a.le,a.ta] 152)).alloc (.cells #[Value.int .i64 b.fr,b.le,b.ta] 152)) W by rw [c];exact dB _);have f:∀ X,Ext W X->∀ j,X.cell? ⟨w.heap.size,j,none⟩=#[Value.int .i64 a.fr,.int .i64 a.le,.int .i64 a.ta][j]?:=fun X hX=>(d.1.ext hX).cell;have g:∀ X,Ext W X->∀ j,X.cell? ⟨w.heap.size+1,j,none⟩=#[Value.int .i64 b.fr,.int .i64 b.le,.int .i64 b.ta][j]?:=fun X hX=>(d.2.ext hX).cell;rw [← c];have h:=dB W;clear c d
 go_region_held3 (fun X=>Ext W X) (first|assumption|(refine fW ?_;assumption)|(refine Ext.alloc ?_ _;assumption)|(refine fW ?_;refine Ext.alloc ?_ _;assumption)|(refine e8 ?_ aM;assumption)) (first|(go_at_call 248;refine (cmp_Compare _ _ _).mono ?_;rintro e w' ⟨rfl,rfl⟩)|(go_at_call 247;refine (cmp_Or (reads_lit 3 [zio a.fr b.fr,zio a.le b.le,zio a.ta b.ta] rfl rfl oM ((dB _).drew))).mono ?_;rintro e w' ⟨rfl,rfl⟩))
 all_goals (go_wp2_with fail;go_ret;exact⟨rfl,hx.trans (by first|assumption|(refine fW ?_;assumption)|(refine Ext.alloc ?_ _;assumption)|(refine fW ?_;refine Ext.alloc ?_ _;assumption))⟩)
theorem zZ {al:Int}   {q:Int}  :
  Calls Tryz.prog 186 #[.agg #[al,st,.slice A n c],q] w fun e w'=>e=.returned (.bool (decide (0<=q)&&decide (q<st)))∧Ext w w':=by
 by_cases h0:0<=q
 all_goals
  go_enter Tryz.func186,Tryz.ntmps186
  go_wp2;go_ret;exact⟨zm (by simp;try omega),(dB _).alloc _⟩
def edgB (al:Nat) (st:Int) (e:Edg):Bool:=(decide (0<=e.fr)&&decide (e.fr<st))&&((decide (0<=e.ta)&&decide (e.ta<st))&&(decide (e.le<6)&&hasB al e.le))
def zaZ (al:Nat) (st:Int) (l:List Edg) (k:Nat):Bool:=
 match l[k]? with
 |some e=>edgB al st e&&(decide (k=0) || match l[k - 1]? with
  |some p=>ltE p e
  |none=>false)
 |none=>false
def zl (s:Sys):Bool:=
 decide (0<=s.al∧s.al<=63)&&(decide (1<=s.st∧s.st<=16)&&(fE s.edges.length).all (zaZ s.al.toNat s.st s.edges))
theorem zaS (h:zN w lo hi A n s) :
  Calls Tryz.prog 108 #[.agg #[s.al,s.st,.slice A n c]] w fun e w'=>e=.returned (.bool (zl s))∧Ext w w':=by
 have y:=za (show zl s=(decide (0<=s.al∧s.al<=63)&&(decide (1<=s.st∧s.st<=16)&&(fE n).all (zaZ s.al.toNat s.st s.edges))) by unfold zl;rw [← h.1]);have hn:=h.2.len
 by_cases hal:0<=s.al∧s.al<=63
 ·by_cases hst:1<=s.st∧s.st<=16
  ·obtain⟨al,u⟩:∃ al:Nat,Hid (s.al=al):=⟨s.al.toNat,by unfold Hid;omega⟩;have B:Sm al:=by have:=u.out;unfold Sm;omega
   have H:=za (show decide (0<=(al:Int)∧(al:Int)<=63)=true by have:=u.out;simp;omega);rw [u.out];rw [u.out,fC] at y;clear hal;have ab:decide (s.st<1)=false:=by simp;omega
   have ad:decide (16<s.st)=false:=by simp;omega
   obtain⟨st,T,av,aw⟩:∃ st:Int,Hid (s.st=st)∧1<=st∧st<=16:=⟨s.st,za rfl,hst.1,hst.2⟩;rw [T.out] at ab ad y ⊢;clear hst;have hR:=fun W (G:Ext w W)=>h.2.ext G;have HR:=za hR;clear hR
   go_enter Tryz.func108,Tryz.ntmps108
   go_wp2_with (go_at_call 173;refine (zan _ _).mono ?_;rw [H.out];rintro e w' ⟨rfl,rfl⟩)
   go_loopw [22] (fun i wr=>∃ k:Nat,k<=n∧i=.int .i64 k∧Hid (((fE n).take k).all (zaZ al st s.edges)=true)∧Ext (w.alloc (.cells #[Value.int .i64 al,st,Value.slice A n c] 38)) wr)
    (fun i _=>n - (intOf i).toNat)
   case atStart=>exact⟨0,eD _,rfl,rfl,dB _⟩
   case round =>
    obtain⟨k,hk,rfl,x,m⟩:=hrel
    by_cases hlt:k<n
    ·obtain⟨b,o,e,rfl,au,ao,D,c0,c1,c2⟩:=(HR.out wr (((dB _).alloc _).trans m)).ar hlt;have Z:=zbY m;go_wp2_with fail
     obtain⟨W,G⟩:∃ W:World,W=wr.alloc (.cells #[Value.int .i64 e.fr,e.le,e.ta] 152):=⟨_,rfl⟩;have hx:Ext wr W:=by rw [G];exact (dB _).alloc _
     have h1:=zej (show Ext (wr.alloc (.cells #[Value.int .i64 e.fr,e.le,e.ta] 152)) W by rw [G];exact dB _);have e0:∀ X,Ext W X->∀ j,X.cell? ⟨w.heap.size,j,none⟩=#[Value.int .i64 al,.int .i64 st,Value.slice (some ⟨b,o,none⟩) n c][j]?:=fun X hX=>zbY ((m.trans hx).trans hX);have e1:∀ X,Ext W X->∀ j,X.cell? ⟨wr.heap.size,j,none⟩=#[Value.int .i64 e.fr,.int .i64 e.le,.int .i64 e.ta][j]?:=fun X hX=>(h1.ext hX).cell;rw [← G];have hr:=dB W;clear G h1 Z c0 c1 c2;have V:∀ X,Ext W X->Ext w X:=fun X hX=>((((dB _).alloc _).trans m).trans hx).trans hX;have l:=za V;clear V;have Q:(fE n)[k]?=some k:=by rw [gB hlt]
     have t:=za Q;clear Q;cases g:(decide (0<=e.fr)&&decide (e.fr<st))
     ·have J:=za g;clear g;have g:=J;clear J;refine zad (fun X=>Ext W X) [0,1,2,3,4,5,6,7,8,9,10,11,12,13,14,15,16,17,18,19,20,21,22,23,24,25,26,27,28,29,30,31,32,33,34,35,36,37,38,39] kM rfl kM kM (fun _ _ _ _ _ h=>h) ((dB _).drew) (fun hS=>?_);refine sQ ?_;refine zW (fun K hK=>?_);go_simp;refine (zZ).mono ?_;rw [g.out];rintro r I ⟨rfl,d⟩;refine hK.out _ _ (e8 aM d) (fun hS=>?_);refine pT ?_;refine sQ ?_;refine zcC ?_;go_wp2_with fail
      go_ret;exact⟨zm (by rw [y.out,zaA t.out (by rw [zaZ,D.out];dsimp only;rw [edgB,g.out];simp)];simp),l.out _ aM⟩
     ·have J:=za g;clear g;have g:=J;clear J;cases q:(decide (0<=e.ta)&&decide (e.ta<st))
      ·have L:=za q;clear q;have q:=L;clear L;refine zad (fun X=>Ext W X) [0,1,2,3,4,5,6,7,8,9,10,11,12,13,14,15,16,17,18,19,20,21,22,23,24,25,26,27,28,29,30,31,32,33,34,35,36,37,38,39] kM rfl kM kM (fun _ _ _ _ _ h=>h) ((dB _).drew) (fun hS=>?_);refine sQ ?_;refine zW (fun K hK=>?_);go_simp;refine (zZ).mono ?_;rw [g.out];rintro r I ⟨rfl,d⟩;refine hK.out _ _ (e8 aM d) (fun hS=>?_);refine pT ?_;refine sQ ?_;refine zW (fun K hK=>?_);go_simp;refine (zZ).mono ?_;rw [q.out];rintro r U ⟨rfl,f⟩;refine hK.out _ _ (e8 aM f) (fun hS=>?_);refine pT ?_;refine sQ ?_;refine zcC ?_;go_wp2_with fail
       go_ret;exact⟨zm (by rw [y.out,zaA t.out (by rw [zaZ,D.out];dsimp only;rw [edgB,g.out,q.out];simp)];simp),l.out _ aM⟩
      ·have L:=za q;clear q;have q:=L;clear L
       by_cases hle:6<=e.le
       ·have hL:decide (6<=e.le)=true:=by simp;omega
        refine zad (fun X=>Ext W X) [0,1,2,3,4,5,6,7,8,9,10,11,12,13,14,15,16,17,18,19,20,21,22,23,24,25,26,27,28,29,30,31,32,33,34,35,36,37,38,39] kM rfl kM kM (fun _ _ _ _ _ h=>h) ((dB _).drew) (fun hS=>?_);refine sQ ?_;refine zW (fun K hK=>?_);go_simp;refine (zZ).mono ?_;rw [g.out];rintro r I ⟨rfl,d⟩;refine hK.out _ _ (e8 aM d) (fun hS=>?_);refine pT ?_;refine sQ ?_;refine zW (fun K hK=>?_);go_simp;refine (zZ).mono ?_;rw [q.out];rintro r U ⟨rfl,f⟩;refine hK.out _ _ (e8 aM f) (fun hS=>?_);refine pT ?_;refine sQ ?_;refine zcC ?_;go_wp2_with fail
        go_ret;exact⟨zm (by rw [y.out,zaA t.out (by rw [zaZ,D.out];dsimp only;rw [edgB,g.out,q.out];simp;omega)];simp),l.out _ aM⟩
       ·have hL:decide (6<=e.le)=false:=by simp;omega
        have R:=za (show decide (e.le<6)=true by simp;omega);cases v:hasB al e.le
        ·have M:=za v;clear v;have v:=M;clear M;refine zad (fun X=>Ext W X) [0,1,2,3,4,5,6,7,8,9,10,11,12,13,14,15,16,17,18,19,20,21,22,23,24,25,26,27,28,29,30,31,32,33,34,35,36,37,38,39] kM rfl kM kM (fun _ _ _ _ _ h=>h) ((dB _).drew) (fun hS=>?_);refine sQ ?_;refine zW (fun K hK=>?_);go_simp;refine (zZ).mono ?_;rw [g.out];rintro r I ⟨rfl,d⟩;refine hK.out _ _ (e8 aM d) (fun hS=>?_);refine pT ?_;refine sQ ?_;refine zW (fun K hK=>?_);go_simp;refine (zZ).mono ?_;rw [q.out];rintro r U ⟨rfl,f⟩;refine hK.out _ _ (e8 aM f) (fun hS=>?_);refine pT ?_;refine sQ ?_;refine zW (fun K hK=>?_);go_simp;refine (zcg _ _ B _).mono ?_;rw [v.out];rintro r w4 ⟨rfl,rfl⟩;refine hK.out _ _ aM (fun hS=>?_);refine pT ?_;refine sQ ?_;refine zcC ?_;go_wp2_with fail
         go_ret;exact⟨zm (by rw [y.out,zaA t.out (by rw [zaZ,D.out];dsimp only;rw [edgB,g.out,q.out,v.out];simp)];simp),l.out _ aM⟩
        ·have M:=za v;clear v;have v:=M;clear M;have C:=za (show edgB al st e=true by rw [edgB,g.out,q.out,v.out,R.out];rfl)
         by_cases hk0:k=0
         ·subst hk0;refine zad (fun X=>Ext W X) [0,1,2,3,4,5,6,7,8,9,10,11,12,13,14,15,16,17,18,19,20,21,22,23,24,25,26,27,28,29,30,31,32,33,34,35,36,37,38,39] kM rfl kM kM (fun _ _ _ _ _ h=>h) ((dB _).drew) (fun hS=>?_);refine sQ ?_;refine zW (fun K hK=>?_);go_simp;refine (zZ).mono ?_;rw [g.out];rintro r I ⟨rfl,d⟩;refine hK.out _ _ (e8 aM d) (fun hS=>?_);refine pT ?_;refine sQ ?_;refine zW (fun K hK=>?_);go_simp;refine (zZ).mono ?_;rw [q.out];rintro r U ⟨rfl,f⟩;refine hK.out _ _ (e8 aM f) (fun hS=>?_);refine pT ?_;refine sQ ?_;refine zW (fun K hK=>?_);go_simp;refine (zcg _ _ B _).mono ?_;rw [v.out];rintro r w4 ⟨rfl,rfl⟩;refine hK.out _ _ aM (fun hS=>?_);refine pT ?_;refine sQ ?_;refine zcC ?_;go_wp2_with fail
          go_roundw
          case rel=>exact⟨0+1,oM,gM,zco t.out x.out (by rw [zaZ,D.out];dsimp only;rw [C.out];simp),(m.trans hx).trans aM⟩
          case measure=>simp [intOf];omega
         ·obtain⟨j,rfl⟩:∃ j,k=j+1:=⟨k - 1,oM⟩;have hp:s.edges[j]?=some (s.edges[j]'(oH h.1)):=dC _;generalize s.edges[j]'(oH h.1)=p at hp;have Y:=za hp;clear hp;have z:=(HR.out wr (((dB _).alloc _).trans m)).edge2 Y.out;have p0:∀ X,Ext W X->X.cell? ⟨b,o+j*3,none⟩=some (.int .i64 p.fr):=fun X hX=>(hx.trans hX).aa z.1;have p1:∀ X,Ext W X->X.cell? ⟨b,o+j*3+1,none⟩=some (.int .i64 p.le):=fun X hX=>(hx.trans hX).aa z.2.1;have p2:∀ X,Ext W X->X.cell? ⟨b,o+j*3+2,none⟩=some (.int .i64 p.ta):=fun X hX=>(hx.trans hX).aa z.2.2;clear z;have ar:decide ((0:Int)<(j:Int)+1)=true:=decide_eq_true oM;have ax:IntKind.i64.wrap ((j:Int)+1 - 1)=(j:Int):=by rw [IntKind.wrap_i64];omega
          have ay:IntKind.i64.wrap (j:Int)=(j:Int):=by rw [IntKind.wrap_i64];omega
          have ap:(0:Int)<=(j:Int):=oM;have aq:(j:Int)<(n:Int):=oM;have S:=cmpE_lt p e;have O:=za S;clear S
          by_cases hc:0<=cmpE p e
          ·have aa:decide (0<=cmpE p e)=true:=by simpa using hc
           have E:=za (show ltE p e=false by rw [fQ];intro hh;have:=O.out.2 hh;omega);refine zad (fun X=>Ext W X) [0,1,2,3,4,5,6,7,8,9,10,11,12,13,14,15,16,17,18,19,20,21,22,23,24,25,26,27,28,29,30,31,32,33,34,35,36,37,38,39] kM rfl kM kM (fun _ _ _ _ _ h=>h) ((dB _).drew) (fun hS=>?_);refine sQ ?_;refine zW (fun K hK=>?_);go_simp;refine (zZ).mono ?_;rw [g.out];rintro r I ⟨rfl,d⟩;refine hK.out _ _ (e8 aM d) (fun hS=>?_);refine pT ?_;refine sQ ?_;refine zW (fun K hK=>?_);go_simp;refine (zZ).mono ?_;rw [q.out];rintro r U ⟨rfl,f⟩;refine hK.out _ _ (e8 aM f) (fun hS=>?_);refine pT ?_;refine sQ ?_;refine zW (fun K hK=>?_);go_simp;refine (zcg _ _ B _).mono ?_;rw [v.out];rintro r w4 ⟨rfl,rfl⟩;refine hK.out _ _ aM (fun hS=>?_);refine pT ?_;refine sQ ?_;refine zW (fun K hK=>?_);go_simp;refine (zdk (a:=p) (b:=e)).mono ?_;rintro r w5 ⟨rfl,F⟩;refine hK.out _ _ (e8 aM F) (fun hS=>?_);refine pT ?_;refine sQ ?_;refine zcC ?_;go_wp2_with fail
           go_ret;exact⟨zm (by rw [y.out,zaA t.out (by rw [zaZ,D.out];dsimp only;rw [iD,Y.out];simp [E.out])];simp),l.out _ aM⟩
          ·have aa:decide (0<=cmpE p e)=false:=by simp;omega
           have E:=za (show ltE p e=true from O.out.1 oM);refine zad (fun X=>Ext W X) [0,1,2,3,4,5,6,7,8,9,10,11,12,13,14,15,16,17,18,19,20,21,22,23,24,25,26,27,28,29,30,31,32,33,34,35,36,37,38,39] kM rfl kM kM (fun _ _ _ _ _ h=>h) ((dB _).drew) (fun hS=>?_);refine sQ ?_;refine zW (fun K hK=>?_);go_simp;refine (zZ).mono ?_;rw [g.out];rintro r I ⟨rfl,d⟩;refine hK.out _ _ (e8 aM d) (fun hS=>?_);refine pT ?_;refine sQ ?_;refine zW (fun K hK=>?_);go_simp;refine (zZ).mono ?_;rw [q.out];rintro r U ⟨rfl,f⟩;refine hK.out _ _ (e8 aM f) (fun hS=>?_);refine pT ?_;refine sQ ?_;refine zW (fun K hK=>?_);go_simp;refine (zcg _ _ B _).mono ?_;rw [v.out];rintro r w4 ⟨rfl,rfl⟩;refine hK.out _ _ aM (fun hS=>?_);refine pT ?_;refine sQ ?_;refine zW (fun K hK=>?_);go_simp;refine (zdk (a:=p) (b:=e)).mono ?_;rintro r w5 ⟨rfl,F⟩;refine hK.out _ _ (e8 aM F) (fun hS=>?_);refine pT ?_;refine sQ ?_;refine zcC ?_;go_wp2_with fail
           go_roundw
           case rel=>exact⟨j+1+1,oM,gM,zco t.out x.out (by rw [zaZ,D.out];dsimp only;rw [iD,Y.out,C.out];simp [E.out]),(m.trans hx).trans aM⟩
           case measure=>simp [intOf];omega
    ·obtain rfl:k=n:=oM;go_wp2;go_ret;exact⟨zm (by rw [y.out,zeB sM x.out,H.out];simp;omega),((dB _).alloc _).trans m⟩
  ·go_enter Tryz.func108,Tryz.ntmps108
   have H:=za (show decide (0<=s.al∧s.al<=63)=true by simp;omega);go_wp2_with (go_at_call 173;refine (zan _ _).mono ?_;rw [H.out];rintro e w' ⟨rfl,rfl⟩)
   all_goals go_ret
   all_goals exact⟨zm (by rw [y.out];simp [hst]),(dB _).alloc _⟩
 ·go_enter Tryz.func108,Tryz.ntmps108
  have H:=za (show decide (0<=s.al∧s.al<=63)=false by simp;omega);go_wp2_with (go_at_call 173;refine (zan _ _).mono ?_;rw [H.out];rintro e w' ⟨rfl,rfl⟩)
  go_ret;exact⟨zm (by rw [y.out];simp;omega),(dB _).alloc _⟩
theorem zdC {al:Nat}  {e:Edg} (hsm:Sm al) :
  Calls Tryz.prog 260 #[al,st,.agg #[e.fr,e.le,e.ta]] w fun r w'=>r=.returned (.bool (edgB al st e))∧Ext w w':=by
 have a:=za (show edgB al st e=((decide (0<=e.fr)&&decide (e.fr<st))&&((decide (0<=e.ta)&&decide (e.ta<st))&&(decide (e.le<6)&&hasB al e.le))) from rfl)
 by_cases h0:e.fr<0
 ·go_enter Tryz.func260,Tryz.ntmps260
  go_wp2;go_ret;exact⟨zm (by rw [a.out];simp;omega),(dB _).alloc _⟩
 ·by_cases h1:st<=e.fr
  ·go_enter Tryz.func260,Tryz.ntmps260
   go_wp2;go_ret;exact⟨zm (by rw [a.out];simp;omega),(dB _).alloc _⟩
  ·by_cases h2:e.ta<0
   ·go_enter Tryz.func260,Tryz.ntmps260
    go_wp2;go_ret;exact⟨zm (by rw [a.out];simp;omega),(dB _).alloc _⟩
   ·by_cases h3:st<=e.ta
    ·go_enter Tryz.func260,Tryz.ntmps260
     go_wp2;go_ret;exact⟨zm (by rw [a.out];simp;omega),(dB _).alloc _⟩
    ·by_cases h4:0<=e.le
     ·by_cases h5:e.le<6
      ·obtain⟨le,b⟩:∃ le:Nat,Hid (e.le=le):=⟨e.le.toNat,by unfold Hid;omega⟩;have c:(le:Int)<6:=oH b.out;clear h4 h5;rw [b.out]
       go_enter Tryz.func260,Tryz.ntmps260
       go_wp2_with (go_at_call 140;refine (zae al le hsm _ oM).mono ?_;rintro r w' ⟨rfl,rfl⟩)
       go_ret;exact⟨zm (by rw [a.out,b.out,decide_eq_true (show 0<=e.fr by omega),decide_eq_true (show e.fr<st by omega),decide_eq_true (show 0<=e.ta by omega),decide_eq_true (show e.ta<st by omega),decide_eq_true c];simp [hasB]),(dB _).alloc _⟩
      ·go_enter Tryz.func260,Tryz.ntmps260
       go_wp2_with fail
       go_ret;exact⟨zm (by rw [a.out];simp;omega),(dB _).alloc _⟩
     ·go_enter Tryz.func260,Tryz.ntmps260
      go_wp2_with fail
      go_ret;exact⟨zm (by rw [a.out];simp [hasB];omega),(dB _).alloc _⟩
theorem zfu {a b:Edg}  :
  Calls Tryz.prog 257 #[.agg #[a.fr,a.le,a.ta],.agg #[b.fr,b.le,b.ta]] w fun e w'=>e=.returned (.bool (ltE a b))∧Ext w w':=by
 have c:=za (show ltE a b=if a.fr=b.fr then if a.le=b.le then decide (a.ta<b.ta) else decide (a.le<b.le) else decide (a.fr<b.fr) from rfl);have hx:Ext w ((w.alloc (.cells #[Value.int .i64 a.fr,a.le,a.ta] 152)).alloc (.cells #[Value.int .i64 b.fr,b.le,b.ta] 152)):=((dB _).alloc _).alloc _;have d:=za hx;clear hx
 by_cases h0:a.fr=b.fr
 ·have h:(a.fr != b.fr)=false:=by simp [h0]
  have f:=za h0;clear h0
  by_cases h1:a.le=b.le
  ·have i:(a.le != b.le)=false:=by simp [h1]
   have g:=za h1;clear h1
   go_enter Tryz.func257,Tryz.ntmps257
   go_wp2;go_ret;exact⟨zm (by rw [c.out,if_pos f.out,if_pos g.out]),d.out⟩
  ·have i:(a.le != b.le)=true:=by simp [h1]
   go_enter Tryz.func257,Tryz.ntmps257
   go_wp2;go_ret;exact⟨zm (by rw [c.out,if_pos f.out,if_neg h1]),d.out⟩
 ·have h:(a.fr != b.fr)=true:=by simp [h0]
  go_enter Tryz.func257,Tryz.ntmps257
  go_wp2;go_ret;exact⟨zm (by rw [c.out,if_neg h0]),d.out⟩
theorem zay (h:zN w lo hi A n s) :
  Calls Tryz.prog 199 #[.agg #[s.al,s.st,.slice A n c]] w fun e w'=>e=.returned (.bool (zl s))∧Ext w w':=by
 have y:=za (show zl s=(decide (0<=s.al∧s.al<=63)&&(decide (1<=s.st∧s.st<=16)&&(fE n).all (zaZ s.al.toNat s.st s.edges))) by unfold zl;rw [← h.1]);have hn:=h.2.len
 by_cases hal:0<=s.al∧s.al<=63
 ·by_cases hst:1<=s.st∧s.st<=16
  ·obtain⟨al,g⟩:∃ al:Nat,Hid (s.al=al):=⟨s.al.toNat,by unfold Hid;omega⟩;have u:Sm al:=by have:=g.out;unfold Sm;omega
   have B:=za (show decide (0<=(al:Int)∧(al:Int)<=63)=true by have:=g.out;simp;omega);rw [g.out];rw [g.out,fC] at y;clear hal;have I:decide (s.st<1)=false:=by simp;omega
   have J:decide (16<s.st)=false:=by simp;omega
   obtain⟨st,D,ah,ai⟩:∃ st:Int,Hid (s.st=st)∧1<=st∧st<=16:=⟨s.st,za rfl,hst.1,hst.2⟩;rw [D.out] at I J y ⊢;clear hst;have T:=fun W (hW:Ext w W)=>h.2.ext hW;have O:=za T;clear T
   go_enter Tryz.func199,Tryz.ntmps199
   go_wp2_with (go_at_call 139;refine (zV _ _).mono ?_;rw [B.out];rintro e w' ⟨rfl,rfl⟩)
   go_loopw [3] (fun i wr=>∃ k:Nat,k<=n∧i=.int .i64 k∧Hid (((fE n).take k).all (zaZ al st s.edges)=true)∧Ext (w.alloc (.cells #[Value.int .i64 al,st,Value.slice A n c] 38)) wr)
    (fun i _=>n - (intOf i).toNat)
   case atStart=>exact⟨0,eD _,rfl,rfl,dB _⟩
   case round =>
    obtain⟨k,hk,rfl,l,d⟩:=hrel;have H:=zbY d
    by_cases hlt:k<n
    ·obtain⟨b,o,e,rfl,ag,Y,F,Q,R,S⟩:=(O.out wr (((dB _).alloc _).trans d)).ar hlt;go_wp2_with fail
     clear H;have e0:∀ X,Ext wr X->∀ j,X.cell? ⟨w.heap.size,j,none⟩=#[Value.int .i64 al,.int .i64 st,Value.slice (some ⟨b,o,none⟩) n c][j]?:=fun X hX=>zbY (d.trans hX);have q0:∀ X,Ext wr X->X.cell? ⟨b,o+k*3,none⟩=some (.int .i64 e.fr):=fun X hX=>hX.aa Q;have q1:∀ X,Ext wr X->X.cell? ⟨b,o+k*3+1,none⟩=some (.int .i64 e.le):=fun X hX=>hX.aa R;have q2:∀ X,Ext wr X->X.cell? ⟨b,o+k*3+2,none⟩=some (.int .i64 e.ta):=fun X hX=>hX.aa S;have hr:=dB wr;clear Q R S;have E:∀ X,Ext wr X->Ext w X:=fun X hX=>(((dB _).alloc _).trans d).trans hX;have v:=za E;clear E;have U:(0:Int)<=(k:Int):=oM;have V:(k:Int)<(n:Int):=oM;have C:(fE n)[k]?=some k:=by rw [gB hlt]
     have q:=za C;clear C;cases hA':edgB al st e
     ·have x:=za hA';clear hA';refine zad (fun X=>Ext wr X) [0,1,2,3,4,5,6,7,8,9,10,11,12,13,14,15,16,17,18,19,20,21,22,23,24,25,26,27,28,29] kM rfl kM kM (fun _ _ _ _ _ h=>h) ((dB _).drew) (fun hS=>?_);refine sQ ?_;refine zW (fun K hK=>?_);go_simp;refine (zdC (e:=e) u).mono ?_;rw [x.out];rintro r M ⟨rfl,f⟩;refine hK.out _ _ (e8 aM f) (fun hS=>?_);refine pT ?_;refine sQ ?_;refine zcC ?_;go_wp2_with fail
      go_ret;exact⟨zm (by rw [y.out,zaA q.out (by rw [zaZ,F.out];dsimp only;rw [x.out];simp)];simp),v.out _ aM⟩
     ·have x:=za hA';clear hA'
      by_cases hk0:k=0
      ·subst hk0;simp only [jY,iI] at q0 q1 q2;refine zad (fun X=>Ext wr X) [0,1,2,3,4,5,6,7,8,9,10,11,12,13,14,15,16,17,18,19,20,21,22,23,24,25,26,27,28,29] kM rfl kM kM (fun _ _ _ _ _ h=>h) ((dB _).drew) (fun hS=>?_);refine sQ ?_;refine zW (fun K hK=>?_);go_simp;refine (zdC (e:=e) u).mono ?_;rw [x.out];rintro r M ⟨rfl,f⟩;refine hK.out _ _ (e8 aM f) (fun hS=>?_);refine pT ?_;refine sQ ?_;refine zcC ?_;go_wp2_with fail
       go_roundw
       case rel=>exact⟨0+1,oM,gM,zco q.out l.out (by rw [zaZ,F.out];dsimp only;rw [x.out];simp),d.trans aM⟩
       case measure=>simp [intOf];omega
      ·obtain⟨j,rfl⟩:∃ j,k=j+1:=⟨k - 1,oM⟩;have L:s.edges[j]?=some (s.edges[j]'(oH h.1)):=dC _;generalize s.edges[j]'(oH h.1)=p at L;have G:=za L;clear L;have t:=(O.out wr (((dB _).alloc _).trans d)).edge2 G.out;have p0:∀ X,Ext wr X->X.cell? ⟨b,o+j*3,none⟩=some (.int .i64 p.fr):=fun X hX=>hX.aa t.1;have p1:∀ X,Ext wr X->X.cell? ⟨b,o+j*3+1,none⟩=some (.int .i64 p.le):=fun X hX=>hX.aa t.2.1;have p2:∀ X,Ext wr X->X.cell? ⟨b,o+j*3+2,none⟩=some (.int .i64 p.ta):=fun X hX=>hX.aa t.2.2;clear t;have af:decide ((0:Int)<(j:Int)+1)=true:=decide_eq_true oM;have aj:IntKind.i64.wrap ((j:Int)+1 - 1)=(j:Int):=by rw [IntKind.wrap_i64];omega
       have ak:IntKind.i64.wrap (j:Int)=(j:Int):=by rw [IntKind.wrap_i64];omega
       have Z:(0:Int)<=(j:Int):=oM;have aa:(j:Int)<(n:Int):=oM;have ab:(0:Int)<=(j:Int)+1:=oM;have ad:(j:Int)+1<(n:Int):=oM;have ae:((j:Int)+1).toNat=j+1:=oM;cases hnl':ltE p e
       ·have m:=za hnl';clear hnl';refine zad (fun X=>Ext wr X) [0,1,2,3,4,5,6,7,8,9,10,11,12,13,14,15,16,17,18,19,20,21,22,23,24,25,26,27,28,29] kM rfl kM kM (fun _ _ _ _ _ h=>h) ((dB _).drew) (fun hS=>?_);refine sQ ?_;refine zW (fun K hK=>?_);go_simp;refine (zdC (e:=e) u).mono ?_;rw [x.out];rintro r M ⟨rfl,f⟩;refine hK.out _ _ (e8 aM f) (fun hS=>?_);refine pT ?_;refine sQ ?_;refine zW (fun K hK=>?_);go_simp;refine (zfu (a:=p) (b:=e)).mono ?_;rw [m.out];rintro r w3 ⟨rfl,z⟩;refine hK.out _ _ (e8 aM z) (fun hS=>?_);refine pT ?_;refine sQ ?_;refine zcC ?_;go_wp2_with fail
        go_ret;exact⟨zm (by rw [y.out,zaA q.out (by rw [zaZ,F.out];dsimp only;rw [iD,G.out];simp [m.out])];simp),v.out _ aM⟩
       ·have m:=za hnl';clear hnl';refine zad (fun X=>Ext wr X) [0,1,2,3,4,5,6,7,8,9,10,11,12,13,14,15,16,17,18,19,20,21,22,23,24,25,26,27,28,29] kM rfl kM kM (fun _ _ _ _ _ h=>h) ((dB _).drew) (fun hS=>?_);refine sQ ?_;refine zW (fun K hK=>?_);go_simp;refine (zdC (e:=e) u).mono ?_;rw [x.out];rintro r M ⟨rfl,f⟩;refine hK.out _ _ (e8 aM f) (fun hS=>?_);refine pT ?_;refine sQ ?_;refine zW (fun K hK=>?_);go_simp;refine (zfu (a:=p) (b:=e)).mono ?_;rw [m.out];rintro r w3 ⟨rfl,z⟩;refine hK.out _ _ (e8 aM z) (fun hS=>?_);refine pT ?_;refine sQ ?_;refine zcC ?_;go_wp2_with fail
        go_roundw
        case rel=>exact⟨j+1+1,oM,gM,zco q.out l.out (by rw [zaZ,F.out];dsimp only;rw [iD,G.out,x.out];simp [m.out]),d.trans aM⟩
        case measure=>simp [intOf];omega
    ·obtain rfl:k=n:=oM;go_wp2;go_ret;exact⟨zm (by rw [y.out,zeB sM l.out,B.out];simp;omega),((dB _).alloc _).trans d⟩
  ·go_enter Tryz.func199,Tryz.ntmps199
   have B:=za (show decide (0<=s.al∧s.al<=63)=true by simp;omega);go_wp2_with (go_at_call 139;refine (zV _ _).mono ?_;rw [B.out];rintro e w' ⟨rfl,rfl⟩)
   all_goals go_ret
   all_goals exact⟨zm (by rw [y.out];simp [hst]),(dB _).alloc _⟩
 ·go_enter Tryz.func199,Tryz.ntmps199
  have B:=za (show decide (0<=s.al∧s.al<=63)=false by simp;omega);go_wp2_with (go_at_call 139;refine (zV _ _).mono ?_;rw [B.out];rintro e w' ⟨rfl,rfl⟩)
  go_ret;exact⟨zm (by rw [y.out];simp;omega),(dB _).alloc _⟩
theorem zeg (h:zl s=true):∃ p:Nat,s.st=p∧1<=p∧p<=16∧Few p s.edges:=by
 simp only [zl,eG,decide_eq_true_eq,fF,jG] at h;obtain⟨_,⟨c,d⟩,b⟩:=h;refine⟨s.st.toNat,oM,oM,oM,fun e he=>?_⟩;obtain⟨k,a⟩:=eT he;have:=b k (List.getElem?_eq_some_iff.1 a).1;rw [zaZ,a] at this;simp only [eG,edgB,decide_eq_true_eq,hasB] at this;omega
def marks (k n:Nat):List Nat:=(fE n).map (k+·)
theorem zfX (k n:Nat):(marks k n).length=n:=by simp [marks]
theorem marks_get (h:i<n):(marks k n)[i]?=some (k+i):=by simp [marks,h]
theorem zao {e:TypeId} {size:Nat}  {xs:List Value}(h:w.ownsRow base e size (.slice A n c) n xs)(hn:0<n):∃ g,A=some ⟨g,0,none⟩∧base<=g∧g<w.heap.size:=by
 rcases h.2 with ⟨_,i⟩|⟨g,a,b,f,hg,d,_⟩
 ·omega
 ·injection f with h1 h2 h3
  exact⟨g,h1,hg,(Array.getElem?_eq_some_iff.1 d).1⟩
def blk (A:Option Addr) (b:Nat):Prop:=∃ a,A=some a∧a.block=b
theorem markIntS_any {xs:List Value}  (h:w.ownsRow base 3 1 (.slice A n c) n xs)(hk:k+n<=4611686018427387904) :
  Calls Tryz.prog 124 #[.slice A n c,k] w fun e w'=>e=.returned (.int .i64 (k+n:Nat))∧w'.ownsRow base 3 1 (.slice A n c) n (zU (marks k n))∧Frm (blk A) w w':=by
 have l:=za h.1
 go_enter Tryz.func124,Tryz.ntmps124
 go_wp2
 go_loopw [1,5] (fun v i wr=>∃ j:Nat,j<=n∧i=.int .i64 j∧v=.int .i64 (k+j:Nat)∧∃ a:List Value,Hid (a.length=n - j)∧wr.ownsRow base 3 1 (.slice A n c) n (zU (marks k j)++a)∧Frm (blk A) w wr) (fun _ i _=>n - (intOf i).toNat)
 case atStart=>exact⟨0,eD _,rfl,rfl,xs,by unfold Hid;rw [l.out];omega,by simpa [zU,marks] using h,Frm.refl _ _⟩
 case round =>
  obtain⟨j,y,rfl,rfl,a,b,d,o⟩:=hrel
  by_cases hlt:j<n
  ·obtain⟨g,rfl,hg,_⟩:=zao d oM;obtain⟨z,t⟩:=zab d j oM;have s:=d.frozenAt j;have m:=d.stored j (.int .i64 (k+j:Nat));have f:(zU (marks k j)++a).set j (.int .i64 ((k+j:Nat):Int))=zU (marks k (j+1))++a.drop 1:=by
    have q:(zU (marks k j)).length=j:=by rw [zgS,zfX]
    match a,b.out with
    |[],hr=>simp at hr;omega
    |x :: r,_ =>
     rw [List.set_append_right _ _ oM,q,fO,marks,marks,List.range_succ,fB,nats_append];simp [zU]
   rw [f] at m;have u:(k:Int)+(j:Int)<=4611686018427387904:=oM;clear f;go_wp2;go_roundw
   case rel=>exact⟨j+1,oM,gM,gM,a.drop 1,by have:=b.out;unfold Hid;rw [List.length_drop];omega,m.1,o.cell (p:=⟨g,j,none⟩) ⟨⟨g,0,none⟩,rfl,rfl⟩ _⟩
   case measure=>simp [intOf];omega
  ·obtain rfl:n=j:=oM;obtain rfl:a=[]:=eK (oH b.out);go_wp2;go_ret;exact⟨rfl,by simpa using d,o⟩
theorem heldIntS_any (h:Reads w lo hi 1 A n (zU (marks k n)))(hk:k+n<=4611686018427387904) :
  Calls Tryz.prog 206 #[.slice A n c,k] w fun e w'=>e=.returned (.int .i64 (k+n:Nat))∧w=w':=by
 have m:=h.len
 go_enter Tryz.func206,Tryz.ntmps206
 go_wp2
 go_loop [1,5] (fun v i=>∃ j:Nat,j<=n∧i=.int .i64 j∧v=.int .i64 (k+j:Nat)) (fun _ i=>n - (intOf i).toNat)
 case atStart=>exact⟨0,eD _,rfl,rfl⟩
 case round =>
  obtain⟨j,l,rfl,rfl⟩:=hrel
  by_cases hlt:j<n
  ·obtain⟨f,u,rfl,_,_,d,g⟩:=h.one hlt;have a:u=.int .i64 (k+j:Nat):=by
    have:=d.out;simp only [zU,eL,marks_get hlt,iK,Option.some.injEq] at this;exact this.symm
   subst a;have b:((k:Int)+(j:Int) != (k:Int)+(j:Int))=false:=sM;go_wp2
   go_round
   case rel=>exact⟨j+1,oM,gM,gM⟩
   case measure=>simp [intOf];omega
  ·obtain rfl:n=j:=oM;go_wp2;go_ret;exact⟨rfl,rfl⟩
def lst (x:Nat):Nat:=(letters x 32).headD 0
def clsOf (R:List Nat):Nat->List Nat × Nat
 |0=>([],0)
 |k+1=>if lst (R.getD k 0)=k then ((clsOf R k).1++[(clsOf R k).2],(clsOf R k).2+1) else ((clsOf R k).1++[(clsOf R k).1.getD (lst (R.getD k 0)) 0],(clsOf R k).2)
def cl (R:List Nat) (i:Nat):Nat:=(clsOf R (i+1)).1.getD i 0
theorem ltE_trans {a b c:Edg}(h:ltE a b=true)(h':ltE b c=true):ltE a c=true:=by
 unfold ltE at *
 (repeat' split at h)<;>(repeat' split at h')<;>(repeat' split)<;>simp only [decide_eq_true_eq] at*<;> omega
theorem ltE_iff {a b:Edg}:ltE a b=true↔a.fr<b.fr∨a.fr=b.fr∧(a.le<b.le∨a.le=b.le∧a.ta<b.ta):=by
 unfold ltE
 (repeat' split)<;>simp only [decide_eq_true_eq]<;>omega
def Rising (es:List Edg):Prop:=∀ (a b:Nat) (x y:Edg),es[a]?=some x->es[b]?=some y->a<b->ltE x y=true
theorem rising_of (h:∀ k x y,es[k]?=some x->es[k+1]?=some y->ltE x y=true):Rising es:=by
 intro a b x y hx hy hab
 induction b generalizing y with
 |zero=>omega
 |succ b ih =>
  have g:=(List.getElem?_eq_some_iff.1 hy).1;obtain⟨z,c⟩:∃ z,es[b]?=some z:=⟨_,dC oM⟩;have d:=h b z y c hy;rcases fK a b with f|f
  ·exact ltE_trans (ih z c f) d
  ·obtain rfl:a=b:=oM;rw [hx] at c;obtain rfl:=Option.some.inj c;exact d
theorem valid_iff :zl s=true↔(0<=s.al∧s.al<=63)∧(1<=s.st∧s.st<=16)∧(∀ e∈s.edges,edgB s.al.toNat s.st e=true)∧Rising s.edges:=by
 simp only [zl,eG,decide_eq_true_eq,fF,jG];constructor
 ·rintro ⟨d,f,c⟩;refine⟨d,f,fun e he=>?_,rising_of fun k x y hx b=>?_⟩
  ·obtain⟨k,a⟩:=eT he;have:=c k (List.getElem?_eq_some_iff.1 a).1;rw [zaZ,a] at this;simp only [eG] at this;exact this.1
  ·have:=c (k+1) (List.getElem?_eq_some_iff.1 b).1;unfold zaZ at this;rw [b] at this;simp only [iD,hx,eG,gO,decide_eq_true_eq] at this;rcases this.2 with h|h
   ·omega
   ·exact h
 ·rintro ⟨d,f,c,g⟩;refine⟨d,f,fun k a=>?_⟩;have hx:s.edges[k]?=some s.edges[k]:=dC a;unfold zaZ;rw [hx];simp only [eG,gO,decide_eq_true_eq];refine⟨c _ (gQ a),?_⟩;cases k with
  |zero=>exact Or.inl rfl
  |succ k =>
   have b:s.edges[k]?=some s.edges[k]:=dC oM;simp only [iD,b];exact Or.inr (g k (k+1) _ _ b hx oM)
def ALAt (w:World) (lo hi:Nat) (A:Option Addr) (n:Nat) (us:List Aut):Prop:=
 n=us.length∧∃ cells,Reads w lo hi 3 A n cells∧∀ (k:Nat) (a:Aut),us[k]?=some a->∃ (B:Option Addr) (m c:Nat) (B':Option Addr) (m' c':Nat),cells[k*3]?=some (.int .i64 a.al)∧cells[k*3+1]?=some (.slice B m c)∧cells[k*3+2]?=some (.slice B' m' c')∧zC w lo hi B m B' m' a
section
variable {w w':World} {lo hi n k:Nat} {A:Option Addr} {us:List Aut}
theorem ALAt.ext (h:ALAt w lo hi A n us)(hb:Ext w w'):ALAt w' lo hi A n us:=by
 obtain⟨e,a,l,hx⟩:=h;refine⟨e,a,l.ext hb,fun k s hs=>?_⟩;obtain⟨B,m,c,b,o,d,f,g,i,j⟩:=hx k s hs;exact⟨B,m,c,b,o,d,f,g,i,j.ext hb⟩
theorem ALAt.len (h:ALAt w lo hi A n us):n<=9223372036854775807:=by
 obtain⟨_,a,b,_⟩:=h;exact b.len
theorem ALAt.aut (h:ALAt w lo hi A n us)(hk:k<n):∃ b o a B m c B' m' c',A=some ⟨b,o,none⟩∧Hid (us[k]?=some a)∧w.cell? ⟨b,o+k*3,none⟩=some (.int .i64 a.al)∧w.cell? ⟨b,o+k*3+1,none⟩=some (.slice B m c)∧w.cell? ⟨b,o+k*3+2,none⟩=some (.slice B' m' c')∧zC w lo hi B m B' m' a:=by
 obtain⟨e,d,r,hx⟩:=h;have f:us[0]?=some (us[0]' oM):=dC _;obtain⟨_,_,_,_,_,_,j,_⟩:=hx 0 _ f;rw [jY] at j;obtain⟨b,o,rfl,t,s,g⟩:=zhX r oM j;have i:us[k]?=some (us[k]' oM):=dC _;obtain⟨B,m,c,B',m',c',f,l,p,q⟩:=hx k _ i;exact⟨b,o,_,B,m,c,B',m',c',rfl,i,g _ _ f,by rw [fV];exact g _ _ l,by rw [fV];exact g _ _ p,q⟩
end
structure zeQ (w:World) (PA:Option Addr) (pn:Nat) (AA:Option Addr) (an:Nat) (ss:List Sys) (us:List Aut):Prop where
 sys:∃ lo hi,zda w lo hi PA pn ss
 aut:∃ lo hi,ALAt w lo hi AA an us
theorem zeQ.ext {PA AA:Option Addr} {pn an:Nat}  {us:List Aut}(h:zeQ w PA pn AA an ss us)(hx:Ext w w'):zeQ w' PA pn AA an ss us:=by
 obtain⟨⟨g,f,c⟩,b,a,d⟩:=h;exact⟨⟨g,f,c.ext hx⟩,b,a,d.ext hx⟩
def zaW (ss:List Sys) (us:List Aut):List Mem:=ss.map zdv++us.map zbl
def szs (ss:List Sys) (us:List Aut):List Nat:=ss.map (fun s=>s.st.toNat)++us.map fun a=>a.next.length
theorem zfk (ss:List Sys) (us:List Aut):(zaW ss us).map Prod.fst=szs ss us:=by
 simp [zaW,szs,zdv,zbl,Function.comp_def]
structure zdw (ss:List Sys) (us:List Aut):Prop where
 sys:∀ s∈ss,zl s=true
 aut:∀ a∈us,zj a=true
 few:ss.length<=3
 few':us.length<=2
theorem zbV (h:zl s=true):Sml s:=by
 obtain⟨a,b,f,g⟩:=valid_iff.1 h;obtain⟨p,d,_,_,c⟩:=zeg h;refine⟨b.1,b.2,?_,a.1,a.2⟩;rw [d];exact c
theorem zdw.ok {us:List Aut}(h:zdw ss us):∀ m∈zaW ss us,zdL m:=by
 intro m hm;rcases List.mem_append.1 hm with b|b
 ·obtain⟨s,d,rfl⟩:=List.mem_map.1 b;exact zdZ (zbV (h.sys s d))
 ·obtain⟨a,c,rfl⟩:=List.mem_map.1 b;exact zbm (h.aut a c)
theorem prodS_le {l:List Nat} (h:∀ x∈l,x<=b):zah l<=b ^ l.length:=by
 induction l with
 |nil=>simp [zah]
 |cons x r ih =>
  rw [zah,gS,Nat.pow_succ,gF];exact fX (ih fun y hy=>h y (by simp [hy])) (h x sM)
theorem zdw.le16 {us:List Aut}(h:zdw ss us):∀ x∈szs ss us,1<=x∧x<=16:=by
 intro x hx;rcases List.mem_append.1 hx with b|b
 ·obtain⟨s,f,rfl⟩:=List.mem_map.1 b;have c:=zbV (h.sys s f);have:=c.1;have:=c.2.1;omega
 ·obtain⟨a,d,rfl⟩:=List.mem_map.1 b;have:=(zk (h.aut a d)).2.1;omega
theorem zdw.len {us:List Aut}(h:zdw ss us):(szs ss us).length<=5:=by
 have:=h.few;have:=h.few';simp [szs];omega
theorem zdw.total {us:List Aut}(h:zdw ss us) (l:List Nat)(hl:l.Sublist (szs ss us)):1<=zah l∧zah l<=1048576:=by
 refine⟨prodS_pos fun x hx=>(h.le16 x (hl.subset hx)).1,?_⟩;have a:=prodS_le (l:=l) (b:=16) fun x hx=>(h.le16 x (hl.subset hx)).2;have c:=hl.length_le;have d:=h.len
 calc zah l<=16 ^ l.length:=a
  _<=16 ^ 5:=eW oM oM
  _=1048576:=dM
theorem place_succ (a k:Nat):place a (k+1)=place a k+if a.testBit k then 1 else 0:=by
 unfold place;rw [zbc,eO];cases a.testBit k<;>simp
theorem spec_l1Place (a l:Nat)(ha:Sm a)(hl:l<=6) (w:World) :
  Calls Tryz.prog 270 #[a,l] w fun e w'=>e=.returned (.int .i64 (place a l:Nat))∧w=w':=by
 go_enter Tryz.func270,Tryz.ntmps270
 go_wp2
 go_loop [5,6] (fun v i=>∃ k y:Nat,k<=l∧i=.int .i64 k∧v=.int .i64 y∧y<=k∧Hid (y=place a k)) (fun _ i=>l - (intOf i).toNat)
 case atStart=>exact⟨0,0,eD _,rfl,rfl,eA _,rfl⟩
 case round =>
  obtain⟨k,y,f,rfl,rfl,g,b⟩:=hrel
  by_cases hlt:k<l
  ·cases hb:a.testBit k
   all_goals
    have c:=za hb;have d:=za (place_succ a k);clear hb;go_wp2_with (go_at_call 140;refine (zae a k ha _ oM).mono ?_;rw [c.out];rintro e w' ⟨rfl,rfl⟩)
    go_round
    case rel=>first|exact⟨k+1,y,oM,gM,rfl,oM,by unfold Hid;rw [d.out,c.out,← b.out];rfl⟩|exact⟨k+1,y+1,oM,gM,gM,oM,by unfold Hid;rw [d.out,c.out,← b.out];rfl⟩
    case measure=>simp [intOf];omega
  ·obtain rfl:l=k:=oM;go_wp2;go_ret;exact⟨zG (by rw [b.out]),rfl⟩
theorem zds {B:Option Addr} {m d:Nat} {B':Option Addr} {m' d':Nat} {a:Aut}  (h:zC w lo hi B m B' m' a)(hv:zj a=true)(hq:q<a.next.length)(hl:l<6) :
  Calls Tryz.prog 222 #[.agg #[a.al,.slice B m d,.slice B' m' d'],q,l] w fun e w'=>e=.returned (.int .i64 (aGo a q l:Nat))∧Ext w w':=by
 obtain⟨⟨s,t⟩,_,_,f⟩:=zk hv;obtain⟨al,g⟩:∃ al:Nat,Hid (a.al=al):=⟨a.al.toNat,by unfold Hid;omega⟩;have n:Sm al:=by have:=g.out;unfold Sm;omega
 have o:a.al.toNat=al:=oH g.out;have Hn:=za h.n1;have U:=za (fun W (hW:Ext w W)=>h.1.ext hW);have O:q<m:=by rw [h.n1];exact hq
 have R:=za (show aGo a q l=if al.testBit l then ((a.next.getD q []).getD (place al l) 0).toNat else q by unfold aGo;rw [o]);have c:a.next[q]?=some a.next[q]:=dC hq;obtain⟨k,C⟩:=f q _ c;rw [o] at k;have i:=za c;have H:=za C;have G:=za k;have Z:=h.1.len;clear k C c o f h;generalize a.next[q]=row at *;cases hb:al.testBit l
 ·have r:=za hb;clear hb;rw [g.out];clear s t
  go_enter Tryz.func222,Tryz.ntmps222
  go_wp2_with (go_at_call 140;refine (zae al l n _ oM).mono ?_;rw [r.out];rintro e w' ⟨rfl,rfl⟩)
  go_ret;exact⟨zG (by rw [R.out,r.out];rfl),(dB _).alloc _⟩
 ·have hp:=za (place_lt hl hb);have r:=za hb;clear hb;rw [g.out];clear s t;have v:place al l<row.length:=by rw [G.out];exact hp.out
  obtain⟨x,hx⟩:∃ x,Hid (row[place al l]?=some x):=⟨_,dC v⟩;obtain⟨x0,x1⟩:=H.out x (eB hx.out);obtain⟨y,rfl⟩:∃ y:Nat,x=y:=⟨x.toNat,oM⟩;have Q:=za (show aGo a q l=y by rw [R.out,r.out,if_pos rfl];simp only [eF,i.out,gE,hx.out];rfl)
  go_enter Tryz.func222,Tryz.ntmps222
  go_wp2_with (go_at_call 140;refine (zae al l n _ oM).mono ?_;rw [r.out];rintro e w' ⟨rfl,rfl⟩)
  generalize U0:w.alloc _=p at *;obtain⟨E,J⟩:=Ext.x1_ U0;clear U0;obtain⟨V,T,Y,l',rfl,_,_,M,S,D⟩:=(U.out p E).row O;obtain rfl:row=l':=by have I:=i.out;have u:=M.out;rw [I] at u;exact Option.some.inj u
  have j:∀ W,Ext p W->∃ b,T=some b∧W.cell? (b.add (place al l))=some (.int .i64 (y:Nat)):=fun W hW=>by
   obtain⟨b,z,e,_,_,hz,L⟩:=(D.ext hW).int v;have I:=hx.out;have u:=hz.out;rw [I] at u;obtain rfl:=Option.some.inj u;exact⟨b,e,L⟩
  obtain⟨b,rfl,_⟩:=j p (dB _);have c2:∀ W,Ext p W->W.cell? (b.add (place al l))=some (.int .i64 (y:Nat)):=fun W hW=>by
   obtain⟨X,e,h⟩:=j W hW;injection e with e
   subst e;exact h
  have c1:∀ W,Ext p W->W.cell? (V.add q)=some (.slice (some b) row.length Y):=fun W hW=>hW.aa S;have c0:=J.cells;clear j S D;have ab:(place al l:Int)<(row.length:Int):=oM;have ae:=dB p;generalize hpp:place al l=pl at *;have F:=za hpp;clear hpp;go_wp2_with fail
  go_region_held3 (fun W=>Ext p W) (first|assumption|(refine fW ?_;assumption)|(refine e8 ?_ aM;assumption)|(refine e8 ?_ aM;refine fW ?_;assumption)) ((go_at_call 270;refine (spec_l1Place al l n oM _).mono ?_;rw [F.out];rintro e w' ⟨rfl,rfl⟩))
  go_wp2;go_ret;exact⟨zG (by rw [Q.out]),E.trans aM⟩
abbrev Lay (α:Type):=World->Nat->Nat->Value->α->Prop
structure Lay.Ok {α:Type} (P:Lay α):Prop where
 frm:∀ {S:Nat->Prop} {W W':World} {lo hi:Nat} {r:Value} {x:α},P W lo hi r x->Frm S W W'->(∀ k,lo<=k->k<hi->¬ S k)->P W' lo hi r x
 more:∀ {W:World} {lo hi lo' hi':Nat} {r:Value} {x:α},P W lo hi r x->lo'<=lo->hi<=hi'->P W lo' hi' r x
def zbg:Lay Nat:=fun _ _ _ r n=>r=.int .i64 (n:Nat)
theorem zbg.ok:Lay.Ok zbg:=⟨fun h _ _=>h,fun h _ _=>h⟩
def Lst {α:Type} (P:Lay α) (W:World) (lo hi:Nat) (A:Option Addr) (xs:List α):Prop:=
 ∃ rows,Reads W lo hi 1 A xs.length rows∧∀ (i:Nat) (r:Value) (x:α),rows[i]?=some r->xs[i]?=some x->P W lo hi r x
def LstP {α:Type} (P:Lay α):Lay (List α):=fun W lo hi r xs=>∃ A c,r=.slice A xs.length c∧Lst P W lo hi A xs
section
variable {α:Type} {P:Lay α} {W W':World} {lo hi:Nat} {A:Option Addr} {xs:List α}
theorem Lst.frm (hP:Lay.Ok P) {S:Nat->Prop}(h:Lst P W lo hi A xs)(hx:Frm S W W')(hS:∀ k,lo<=k->k<hi->¬ S k):Lst P W' lo hi A xs:=by
 obtain⟨a,b,c⟩:=h;exact⟨a,b.frm hx hS,fun i r x hr hx'=>hP.frm (c i r x hr hx') hx hS⟩
theorem Lst.ext (hP:Lay.Ok P)(h:Lst P W lo hi A xs)(hx:Ext W W'):Lst P W' lo hi A xs:=h.frm hP hx (fun _ _ _ h=>h)
theorem Lst.more (hP:Lay.Ok P) {lo' hi':Nat}(h:Lst P W lo hi A xs)(h1:lo'<=lo)(h2:hi<=hi'):Lst P W lo' hi' A xs:=by
 obtain⟨a,b,c⟩:=h;exact⟨a,b.more h1 h2,fun i r x hr hx'=>hP.more (c i r x hr hx') h1 h2⟩
theorem LstP.ok (hP:Lay.Ok P):Lay.Ok (LstP P):=by
 refine⟨fun h hx hS=>?_,fun h h1 h2=>?_⟩
 ·obtain⟨A,c,e,h⟩:=h;exact⟨A,c,e,h.frm hP hx hS⟩
 ·obtain⟨A,c,e,h⟩:=h;exact⟨A,c,e,h.more hP h1 h2⟩
theorem Lst.len (h:Lst P W lo hi A xs):xs.length<=9223372036854775807:=by
 obtain⟨a,b,_⟩:=h;exact b.len
theorem Lst.get (h:Lst P W lo hi A xs)(hk:k<xs.length):∃ b o r x,A=some ⟨b,o,none⟩∧lo<=b∧b<hi∧Hid (xs[k]?=some x)∧W.cell? ⟨b,o+k,none⟩=some r∧P W lo hi r x:=by
 obtain⟨a,g,m⟩:=h;have q:=g.length;rw [jK] at q;obtain⟨f,e,n,p,i⟩:=g.at_ hk;have d:a[0]?=some (a[0]' oM):=dC _;have c:a[k]?=some (a[k]' oM):=dC _;have l:=zeW (i 0 _ d);have j:=i k _ c;rw [l,zaI] at j;exact⟨f.block,f.off,_,_,by rw [e,← l],n,p,dC hk,j,m k _ _ c (dC hk)⟩
theorem Lst.get2 {x:α}(h:Lst P W lo hi (some ⟨b,o,none⟩) xs)(hx:xs[k]?=some x):∃ r,W.cell? ⟨b,o+k,none⟩=some r∧P W lo hi r x:=by
 obtain⟨f,g,r,y,e,_,_,a,c,d⟩:=h.get (List.getElem?_eq_some_iff.1 hx).1;injection e with e
 injection e with e1 e2
 subst e1;subst e2;rw [hx] at a;have:=Option.some.inj a.out;subst this;exact⟨r,c,d⟩
end
theorem Lst.aw (h:Reads W lo hi 1 A xs.length (zU xs)):Lst zbg W lo hi A xs:=⟨zU xs,h,fun i r x hr hx=>by
 simp only [zU,eL,hx,iK] at hr
 exact (Option.some.inj hr).symm⟩
theorem Lst.ah (h:W.ownsRow base 3 1 (.slice A xs.length c) xs.length (zU xs)):Lst zbg W base W.heap.size A xs:=Lst.aw (Reads.ae h)
theorem Lst.num (h:Lst zbg W lo hi A xs)(hk:k<xs.length):∃ b o x,A=some ⟨b,o,none⟩∧lo<=b∧b<hi∧Hid (xs[k]?=some x)∧W.cell? ⟨b,o+k,none⟩=some (.int .i64 (x:Nat)):=by
 obtain⟨b,o,r,x,e,a,c,d,f,g⟩:=h.get hk;exact⟨b,o,x,e,a,c,d,by rw [f,g]⟩
theorem Lst.num2 (h:Lst zbg W lo hi (some ⟨b,o,none⟩) xs)(hx:xs[k]?=some x):W.cell? ⟨b,o+k,none⟩=some (.int .i64 (x:Nat)):=by
 obtain⟨r,a,c⟩:=h.get2 hx;rw [a,c]
def Grl {α:Type} (P:Lay α) (W:World) (base:Nat) (e:TypeId) (v:Value) (xs:List α):Prop:=
 ∃ rows:List Value,W.ownsRow base e 1 v xs.length rows∧∀ (i:Nat) (r:Value) (x:α),rows[i]?=some r->xs[i]?=some x->∃ lo hi,base<=lo∧hi<=W.heap.size∧P W lo hi r x∧∀ b,v.ownBlock=some b->b<lo∨hi<=b
section
variable {α:Type} {P:Lay α} {W W':World} {base:Nat} {e:TypeId} {v:Value} {xs:List α}
theorem Grl.form (h:Grl P W base e v xs):∃ A c,v=.slice A xs.length c:=by
 obtain⟨a,b,_⟩:=h;exact zi b
theorem Grl.lst (hP:Lay.Ok P)  (h:Grl P W base e (.slice A n c) xs):Lst P W base W.heap.size A xs:=by
 obtain⟨a,b,d⟩:=h;have l:n=xs.length:=by
  obtain⟨m,o,k⟩:=zi b;injection k
 subst l;refine⟨a,Reads.ae b,fun i r x hr hx=>?_⟩;obtain⟨q,p,f,g,j,_⟩:=d i r x hr hx;exact hP.more j f g
theorem Grl.push (hP:Lay.Ok P)   {v':Value} {x:α} (h2:∀ (i:Nat) (r:Value) (x:α),rows[i]?=some r->xs[i]?=some x->∃ lo hi,base<=lo∧hi<=W.heap.size∧P W lo hi r x∧∀ b,v.ownBlock=some b->b<lo∨hi<=b)(h1:W.ownsRow base e 1 v xs.length rows)
  (hx:Ext W W1) (hr:P W1 lo hi r x) (hlo:W.heap.size<=lo) (hb:base<=lo) (hhi:hi<=W1.heap.size) (zjc:W'.ownsRow base e 1 v' (xs.length+1) (rows++[r])) (hg:W1.grownBy W' v.ownBlock) (hat:v'.ownBlock=v.ownBlock∨v'.ownBlock=some (W1.heap.size+1)):Grl P W' base e v' (xs++[x]):=by
 have g:rows.length=xs.length:=by have:=zcW h1;omega
 have c:Frm (fun k=>v.ownBlock=some k) W1 W':=Frm.af hg;refine⟨rows++[r],by rw [eO,eZ];exact zjc,fun i s y hs hy=>?_⟩;rcases fY i rows.length with a | a | a
 ·rw [eI a] at hs;rw [eI oM] at hy;obtain⟨j,f,m,n,o,l⟩:=h2 i s y hs hy;refine⟨j,f,m,eJ n (eJ hx.size c.size),hP.frm (hP.frm o hx (fun _ _ _ h=>h)) c (fun k hk1 hk2 hk=>by have:=l k hk;omega),fun b hb'=>?_⟩;rcases hat with d|d
  ·rw [d] at hb';exact l b hb'
  ·rw [d] at hb';have:=Option.some.inj hb';have:=hx.size;omega
 ·rw [eM oM,a,fO] at hs;rw [eM oM,a,g,fO] at hy;simp at hs hy;subst hs;subst hy;refine⟨lo,hi,hb,eJ hhi c.size,hP.frm hr c (fun k hk1 hk2 hk=>by have:=(h1.lt k hk).2;omega),fun b hb'=>?_⟩;rcases hat with d|d
  ·rw [d] at hb';have:=(h1.lt b hb').2;omega
  ·rw [d] at hb';have:=Option.some.inj hb';omega
 ·rw [eP (by simp;omega)] at hs;cases hs
theorem Grl.push2 (hP:Lay.Ok P)    {x:α} {cap:Nat}(h2:∀ (i:Nat) (r:Value) (x:α),rows[i]?=some r->xs[i]?=some x->∃ lo hi,base<=lo∧hi<=W.heap.size∧P W lo hi r x∧∀ b,v.ownBlock=some b->b<lo∨hi<=b)(h1:W.ownsRow base e 1 v xs.length rows)
  (hx:Ext W W1) (hr:P W1 lo hi r x) (hlo:W.heap.size<=lo) (hb:base<=lo) (hhi:hi<=W1.heap.size) (zjc:W'.ownsRow base e 1 (.slice (some g) (xs.length+1) cap) (xs.length+1) (rows++[r])) (hg:W1.grownBy W' v.ownBlock) (hat:v.ownBlock=some g∨g=W1.heap.size+1):Grl P W' base e (.slice (some g) (xs.length+1) cap) (xs++[x]):=
 Grl.push hP h2 h1 hx hr hlo hb hhi zjc hg (by
  rcases hat with h|h
  ·exact Or.inl h.symm
  ·exact Or.inr (by rw [h];rfl))
end
end Go.Proofs.YtcfchopfijalpaaGreatDoor
