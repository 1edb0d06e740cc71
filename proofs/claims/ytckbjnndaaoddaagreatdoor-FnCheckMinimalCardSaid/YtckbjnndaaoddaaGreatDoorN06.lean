/- spec.l4Moves -/
import Derived.Test.YtckbjnndaaoddaaGreatDoorN05
set_option maxHeartbeats 8000000
set_option maxRecDepth 100000
namespace Go.Proofs.YtckbjnndaaoddaaGreatDoor
open Go Go.RowKit
open Blk renaming new->dX
open Bool renaming and_eq_true->dI,and_false->iO,eq_false_iff->eM,eq_iff_iff->gI
open Ext renaming refl->dB
open Int renaming toNat_natCast->eN
open List renaming all_eq_true->eH,eq_nil_of_length_eq_zero->dU,foldl_cons->iW,getD_eq_getElem?_getD->dF,getElem?_eq_getElem->dD,getElem?_map->dS,getElem?_of_mem->eB,getElem?_range->gS,length_append->dN,length_replicate->i6,length_singleton->dZ,map_append->eK,map_set->iR,mem_append->gZ,mem_of_getElem?->dC,mem_singleton->fF,range->fK,replicate->dT,set_append_right->iG,take_add_one->dO,take_length->eI,take_of_length_le->dK
open Nat renaming le_refl->dE,lt_trichotomy->eU,or_lt_two_pow->eO,pow_le_pow_right->dV,sub_self->fC,testBit_and->iX,zero_add->dW,zero_le->dG
open Option renaming toList_some->eD
open Reads renaming af->eE
variable {A AA B PA SA:Option Addr} {G K v:Int} {L at_ ls st:List Nat} {N a ac an base c c' cap hi hi' i k l lo lo' m n p pc pn q r sc sn x:Nat} {W w:World} {ds xs:List Int} {es:List Edg} {mv sv:Value} {s:ByteArray} {ss:List Sys}
theorem info_intss:(Tryz.prog.info? 24).map (fun i=>(i.zero,i.size,i.bytes))=some (some (.slice none 0 0),1,24):=kM
def mvs (d:Nat->Nat->List Nat) (L:List Nat) (N:Nat):List (List (List Nat)):=(fK N).map fun x=>L.map fun l=>d x l
theorem zda (d:Nat->Nat->List Nat) (L:List Nat) (N:Nat):(mvs d L N).length=N:=by simp [mvs]
abbrev P3:Lay (List (List Nat)):=LstP (LstP zbs)
theorem P3.ok:Lay.Ok P3:=LstP.ok (LstP.ok zbs.ok)
def RetMv (w:World) (mv:List (List (List Nat))) (e:Ending) (w':World):Prop:=∃ A c,e=.returned (.slice A mv.length c)∧Lst P3 w' w.heap.size w'.heap.size A mv∧Ext w w'
theorem spec_l4Moves {L:Nat}  {us:List Aut} (h:zeY w PA pn AA an ss us)(hok:zdk ss us)(hS:Lst zbs w lo hi SA (szs ss us))(hn:(szs ss us).length=n)(hL:L<64)(hN:N<=1048576) :
  Calls Tryz.prog 216 #[.agg #[.slice PA pn pc,.slice AA an ac,sv,L,K,G],.slice SA n sc,N] w (RetMv w (mvs (pnx (zbf ss us)) (letters L 6) N)):=by
 have HN:=za (fun W (hW:Ext w W)=>h.ext hW);have HS:=za (fun W (hW:Ext w W)=>hS.ext zbs.ok hW);have az:=za hok;have Hn:=za hn;have aZ:n<=5:=by rw [← hn];exact hok.len
 have Hz:=za hok.le16;have aB:Sm L:=tM;have aY:=zy L 6;have ax:=za (show ∀ l∈letters L 6,l<6 from fun l hl=>(zG.1 hl).1);clear h hok hS hn
 go_enter Tryz.func216,Tryz.ntmps216
 go_upto_region 1 with fail
 generalize U0:w.alloc _=B at *;obtain⟨U,aa⟩:=Ext.x1_ U0;clear U0;go_upto_region 2 with fail
 have V:=(dB B).alloc (.cells #[] 24);have ag:w.heap.size<=B.heap.size:=U.size;have ak:=World.ownsRow_lit (base:=B.heap.size) (e:=24) (size:=1) B #[] 0 (dE _) lM rfl;have J:∀ b,(Value.slice (some B.heap.size) 0 0).ownBlock=some b->b<(B.alloc (.cells #[] 24)).heap.size:=fun b hb=>by
  simp [Value.ownBlock] at hb
  simp;omega
 generalize hg1:(some ⟨B.heap.size,0,none⟩:Option Addr)=A1 at *;clear hg1;generalize B.alloc _=w2 at *;have c2:=(aa.ext V).cell;go_upto_region 3 with (go_at_call 134;refine (zY L aB _).mono ?_;rintro e Y ⟨AL,cL,rfl,E,I⟩)
 have aj:=V.trans I;have d:=Lst.ai E;have aF:=I.size;have al:=zh ak I;clear ak E V I c2;generalize hlq:letters L 6=f at *;have aS:=za hlq;clear hlq;go_wp2_with fail
 go_loopw [7,9,10,11,12] (fun v i _ _ _ wr=>∃ k:Nat,i=.int .i64 k∧k<=N∧Grl P3 wr B.heap.size 24 v (mvs (pnx (zbf ss us)) f k)∧Ext B wr∧Lst zbs wr w2.heap.size Y.heap.size AL f∧(∀ b,v.ownBlock=some b->b<w2.heap.size∨Y.heap.size<=b)∧Y.heap.size<=wr.heap.size) (fun _ i _ _ _ _=>N - (intOf i).toNat)
 case atStart=>exact⟨0,rfl,dG _,⟨[],al,fun i r x hr=>by simp at hr⟩,aj,d,fun b hb=>Or.inl (J b hb),dE _⟩
 case round =>
  clear al d J;obtain⟨k,rfl,hk,C,hx,d,R,a0⟩:=hrel;have o:=zda (pnx (zbf ss us)) f k;obtain⟨A0,c0,rfl⟩:=C.form;rw [o];rw [o] at R;have Z:=za R;clear R
  by_cases hlt:k<N
  ·have ai:=U.trans hx;have aA:=za (show mvs (pnx (zbf ss us)) f (k+1)=mvs (pnx (zbf ss us)) f k++[f.map fun l=>pnx (zbf ss us) k l] by simp [mvs,List.range_succ]);rw [o] at C;go_upto_region 7 with (go_at_call 218;refine (zfz (HS.out _ ai) Hn.out oM Hz.out oM).mono ?_;rintro e z ⟨A4,c4,rfl,p,y⟩)
   have O:(dec (szs ss us) k).length=n:=by rw [zcX];exact Hn.out
   rw [O] at p;rw [O];have HT:=za (fun W (hW:Ext z W)=>(Lst.ai (xs:=dec (szs ss us) k) (c:=c4) (A:=A4) (by rw [O];exact p)).ext zbs.ok hW);clear p;go_upto_region 8 with fail
   have a:=(dB z).alloc (.cells #[] 110);have zjq:=World.ownsRow_lit (base:=z.heap.size) (e:=110) (size:=1) z #[] 0 (dE _) lM rfl;generalize hg1:(some ⟨z.heap.size,0,none⟩:Option Addr)=A5 at *;clear hg1;generalize z.alloc _=w5 at *;have ah:=ai.trans y;have aw:=za (fun W (hW:Ext z W)=>((aa.ext (hx.trans y)).ext hW).cell);have HL:=za (fun W (hW:Ext z W)=>d.ext zbs.ok (y.trans hW));go_wp2_with fail
   go_loopw [11,12] (fun v i wr=>∃ j:Nat,i=.int .i64 j∧j<=f.length∧Grl (LstP zbs) wr z.heap.size 110 v ((f.take j).map fun l=>pnx (zbf ss us) k l)∧Ext z wr) (fun _ i _=>f.length - (intOf i).toNat)
   case atStart=>exact⟨0,rfl,dG _,⟨[],zjq,fun i r x hr=>by simp at hr⟩,a⟩
   case round =>
    clear zjq a;obtain⟨j,rfl,hj,F,a⟩:=hrel;obtain⟨A6,c6,rfl⟩:=F.form;have t:((f.take j).map fun l=>pnx (zbf ss us) k l).length=j:=by simp;omega
    rw [t];rw [t] at F
    by_cases hlj:j<f.length
    ·obtain⟨bl,ol,l,rfl,_,_,hl,ab⟩:=(HL.out _ a).num hlj;have aC:=ax.out l (dC hl.out);have aE:=za (show (f.take (j+1)).map (fun l=>pnx (zbf ss us) k l)=(f.take j).map (fun l=>pnx (zbf ss us) k l)++[pnx (zbf ss us) k l] by rw [dO,hl.out];simp);have CL:∀ W,Ext wr W->W.cell? ⟨bl,ol+j,none⟩=some (.int .i64 (l:Nat)):=fun W hW=>hW.aa ab;have CB:=fun W (hW:Ext wr W)=>aw.out W (a.trans hW);have CC:=za (show ∀ W,Ext wr W->Calls Tryz.prog 275 #[.agg #[.slice PA pn pc,.slice AA an ac,sv,L,K,G],.slice SA n sc,.slice A4 n c4,l] W (zbM W (pnx (zbf ss us) k l)) from fun W hW=>spec_l4Nexts (HN.out W ((ah.trans a).trans hW)) az.out (HS.out W ((ah.trans a).trans hW)) (HT.out W (a.trans hW)) Hn.out aC);have aX:(j:Int)<(f.length:Int):=oM;have M:=dB wr;obtain⟨H,m,T⟩:=F;rw [t] at m;clear ab;go_upto_region 11 with fail
     refine uR (fun X=>Ext wr X) [8,9,10] (zw.of [0,1,2,3,4,5,6,7,8,9,10,11]) ?_;refine uQ ?_;refine zb fun K hK=>?_;go_simp;refine (CC.out _ M.drew).mono ?_;rintro e w7 ⟨A7,c7,rfl,S,aG⟩;have s:=M.drew.trans aG;refine hK.out _ _ ?_;refine pT ?_;refine zb fun K hK=>?_;go_simp;refine hK.out _ _ ?_;refine pT ?_;refine zb fun K hK=>?_;refine zaE z w7 _ _ _ rfl 110 _ 1 24 Tryz.underlying24 zbw rfl dM (.slice A6 j c6) j H _ _ rfl rfl (a.trans s).size (zh m s) rfl (zaF _ _ _) lM oM ?_;intro g8 cap8 w8 hown8 hg8 hat8 hlt8;refine hK.out _ _ ?_;refine pT ?_;refine uQ ?_;refine ze ?_;have D:Grl (LstP zbs) w8 z.heap.size 110 (.slice (some g8) (j+1) cap8) ((f.take j).map (fun l=>pnx (zbf ss us) k l)++[pnx (zbf ss us) k l]):=by
      have:=Grl.push2 (LstP.ok zbs.ok) (v:=.slice A6 j c6) (xs:=(f.take j).map fun l=>pnx (zbf ss us) k l) (g:=g8) (cap:=cap8) T (by rw [t];exact m) s ⟨A7,c7,rfl,Lst.ai S⟩ (dE wr.heap.size) a.size (dE _) (by rw [t];exact hown8) hg8 hat8;rwa [t] at this
     have aH:Ext z w8:=(a.trans s).grown hg8 (fun q' hq'=>(m.lt q' hq').1);go_wp2_with fail
     go_roundw
     case rel=>exact⟨j+1,gM,oM,by rw [aE.out];exact D,aH⟩
     case measure=>simp [intOf];omega
    ·obtain rfl:j=f.length:=oM;rw [eI] at F;have u:=y.trans a;have ad:=F.lst (LstP.ok zbs.ok);obtain⟨H,m,T⟩:=C;rw [o] at m;go_wp2_with (at_builtin;refine zU B wr rfl _ _ _ rfl 24 _ 1 24 Tryz.underlying237 info_intss rfl dM (.slice A0 k c0) k H _ _ rfl rfl (hx.trans u) (zh m u) rfl (zaF _ _ _) lM oM ?_;intro v8 w8 hext8 hown8 hg8 hat8)
     have D:Grl P3 w8 B.heap.size 24 v8 (mvs (pnx (zbf ss us)) f k++[f.map fun l=>pnx (zbf ss us) k l]):=
      Grl.push P3.ok (v:=.slice A0 k c0) T (by rw [o];exact m) u (⟨A6,c6,sM,ad⟩:P3 _ _ _ (.slice A6 f.length c6) _) y.size (hx.trans y).size (dE _) (by rw [o];exact hown8) hg8 hat8
     have Q:Lst zbs w8 w2.heap.size Y.heap.size AL f:=(d.ext zbs.ok u).frm zbs.ok (Frm.ab hg8) (fun q h1 h2 hq=>by have:=Z.out q hq;omega);have ae:∀ b,v8.ownBlock=some b->b<w2.heap.size∨Y.heap.size<=b:=fun b hb=>by
      rcases hat8 with h1|h1
      ·rw [h1] at hb;exact Z.out b hb
      ·rw [h1] at hb;have:=Option.some.inj hb;have:=u.size;omega
     have aD:Y.heap.size<=w8.heap.size:=by have:=u.size;have:=(Frm.ab hg8).size;omega
     go_roundw
     case rel=>exact⟨k+1,gM,oM,by rw [aA.out];exact D,hext8,Q,ae,aD⟩
     case measure=>simp [intOf];omega
  ·obtain rfl:N=k:=oM;have af:=za (show RetMv w (mvs (pnx (zbf ss us)) f N) (.returned (.slice A0 N c0)) wr from by
    refine⟨A0,c0,by rw [o],?_,U.trans hx⟩;have:=C.lst P3.ok;exact this.more P3.ok ag (dE _))
   clear C;go_wp2;go_ret;exact af.out
section
variable (d:Nat->Nat->List Nat) (L:List Nat) (goal:Nat->Bool)
def Dn:Nat->Nat->Prop
 |0,x=>goal x=true
 |n+1,x=>∃ l∈L,∃ y∈d x l,Dn n y
def Mn (n x:Nat):Prop:=Dn d L goal n x∧∀ m,m<n->¬ Dn d L goal m x
end
section
variable {d:Nat->Nat->List Nat} {L:List Nat} {goal:Nat->Bool} {start:List Nat} {N:Nat}
theorem Dn.word:∀ {n x:Nat} {v:List Nat},Dn d L goal n x->zbu d start v x->∃ u:List Nat,u.length=n∧(∀ l∈u,l∈L)∧∃ y,zbu d start (v++u) y∧goal y=true:=by
 intro n
 induction n with
 |zero=>intro x v h hg;exact⟨[],rfl,sM,x,by simpa using hg,h⟩
 |succ n ih =>
  intro x v h hg;obtain⟨l,i,y,j,h⟩:=h;obtain⟨u,b,c,z,f,g⟩:=ih h (.snoc hg j);refine⟨l :: u,by simp [b],?_,z,by simpa using f,g⟩;intro k a;rcases List.mem_cons.1 a with rfl|a
  ·exact i
  ·exact c k a
theorem zbu.dn:∀ {u v:List Nat} {y:Nat},zbu d start (v++u) y->goal y=true->(∀ l∈u,l∈L)->∃ x,zbu d start v x∧Dn d L goal u.length x:=by
 intro u
 induction u with
 |nil=>intro v y h hg _;exact⟨y,by simpa using h,hg⟩
 |cons l u ih =>
  intro v y h hg hl;have a:zbu d start ((v++[l])++u) y:=by simpa using h
  obtain⟨x,b,c⟩:=ih a hg (fun k hk=>hl k (by simp [hk]));obtain⟨n,f,hx⟩:=b.inv;exact⟨n,f,l,hl l sM,x,hx,c⟩
theorem Dn.least (h:Dn d L goal n x):∃ m,m<=n∧Mn d L goal m x:=by
 induction n using Nat.strongRecOn with
 |_ n ih =>
  by_cases hm:∃ m,m<n∧Dn d L goal m x
  ·obtain⟨m,a,b⟩:=hm;obtain⟨k,f,c⟩:=ih m a b;exact⟨k,oM,c⟩
  ·exact⟨n,dE _,h,fun m a b=>hm ⟨m,a,b⟩⟩
theorem Mn.next (h:Mn d L goal (n+1) x):∃ l∈L,∃ y∈d x l,Mn d L goal n y:=by
 obtain⟨⟨l,a,y,b,c⟩,f⟩:=h;exact⟨l,a,y,b,c,fun m hm hd=>f (m+1) oM ⟨l,a,y,b,hd⟩⟩
theorem Mn.uniq (h:Mn d L goal m x) (k:Mn d L goal n x):m=n:=by
 rcases eU m n with a|a|a
 ·exact absurd h.1 (k.2 m a)
 ·exact a
 ·exact absurd k.1 (h.2 n a)
def Dst (d:Nat->Nat->List Nat) (L:List Nat) (goal:Nat->Bool) (k:Nat) (x:Nat) (v:Int):Prop:=(v = -1∧∀ m,m<k->¬ Dn d L goal m x)∨∃ n:Nat,n<k∧v=n∧Mn d L goal n x
def zbB (d:Nat->Nat->List Nat) (L:List Nat) (goal:Nat->Bool) (N k i:Nat) (ds:List Int):Prop:=ds.length=N∧∀ (x:Nat) (v:Int),ds[x]?=some v->Dst d L goal (if x<i then k+1 else k) x v
theorem zbB.round_ (h:zbB d L goal N k N ds):zbB d L goal N (k+1) 0 ds:=⟨h.1,fun x v hx=>by
 have h1:=h.2 x v hx
 have h2:=(List.getElem?_eq_some_iff.1 hx).1
 rw [if_pos (by rw [← h.1];exact h2)] at h1
 rw [if_neg oM]
 exact h1⟩
theorem zbB.init (hl:ds.length=N)(h:∀ (x:Nat) (v:Int),ds[x]?=some v->v=if goal x then 0 else -1):zbB d L goal N 1 0 ds:=⟨hl,fun x v hx=>by
 rw [if_neg oM]
 have:=h x v hx
 cases hg:goal x
 ·rw [hg] at this
  refine Or.inl ⟨by simpa using this,fun m hm=>?_⟩
  obtain rfl:m=0:=oM
  simp [Dn,hg]
 ·rw [hg] at this
  exact Or.inr ⟨0,oM,by simpa using this,hg,fun m hm=>oM⟩⟩
theorem zbB.skip (h:zbB d L goal N k i ds)(hv:ds[i]?=some v)(h0:0<=v):zbB d L goal N k (i+1) ds:=⟨h.1,fun x u hx=>by
 have h1:=h.2 x u hx
 by_cases hxi:x=i
 ·subst hxi
  rw [hv] at hx
  obtain rfl:=Option.some.inj hx
  rw [if_pos oM]
  rw [if_neg oM] at h1
  rcases h1 with ⟨h2,_⟩|⟨n,h2,h3⟩
  ·omega
  ·exact Or.inr ⟨n,oM,h3⟩
 ·by_cases h2:x<i
  ·rw [if_pos h2] at h1
   rw [if_pos oM]
   exact h1
  ·rw [if_neg h2] at h1
   rw [if_neg oM]
   exact h1⟩
def ziE (d:Nat->Nat->List Nat) (L:List Nat) (ds:List Int) (k:Nat) (x:Nat):Bool:=L.any fun l=>(d x l).any fun y=>ds.getD y (-1)==(k:Int)
theorem near_iff :ziE d L ds k x=true↔∃ l∈L,∃ y∈d x l,ds[y]?=some (k:Int):=by
 simp only [ziE,List.any_eq_true,beq_iff_eq];constructor
 ·rintro ⟨l,a,y,b,h⟩;refine⟨l,a,y,b,?_⟩;rw [dF] at h;cases hh:ds[y]? with
  |none=>rw [hh] at h;simp at h
  |some v=>rw [hh] at h;simp at h;rw [h]
 ·rintro ⟨l,a,y,b,h⟩;exact⟨l,a,y,b,by rw [dF,h];rfl⟩
theorem zbB.near (h:zbB d L goal N (k+1) i ds)(hd:∀ x l,x<N->l∈L->∀ y∈d x l,y<N)(hv:ds[i]?=some v)(h0:v<0):ziE d L ds k i=true↔Mn d L goal (k+1) i:=by
 have p:i<N:=by rw [← h.1];exact (List.getElem?_eq_some_iff.1 hv).1
 have u:=h.2 i v hv;rw [if_neg oM] at u;have g:∀ m,m<k+1->¬ Dn d L goal m i:=by
  rcases u with ⟨_,b⟩|⟨n,_,c,_⟩
  ·exact b
  ·omega
 have s:∀ y (n:Nat),ds[y]?=some (n:Int)->Mn d L goal n y:=fun y n a=>by
  rcases h.2 y _ a with ⟨b,_⟩|⟨m,_,b,c⟩
  ·omega
  ·obtain rfl:n=m:=oM;exact c
 rw [near_iff];constructor
 ·rintro ⟨l,f,y,a,r⟩;exact⟨⟨l,f,y,a,(s y k r).1⟩,g⟩
 ·rintro ⟨⟨l,f,y,a,b⟩,_⟩;refine⟨l,f,y,a,?_⟩;have q:y<ds.length:=by rw [h.1];exact hd i l p f y a
  have j:ds[y]?=some ds[y]:=dD q;rw [j]
  congr 1
  rcases h.2 y _ j with ⟨_,c⟩|⟨n,_,c,t⟩
  ·exact absurd b (c k (by split<;>omega))
  ·rw [c];rcases eU n k with o|o|o
   ·exact absurd ⟨l,f,y,a,t.1⟩ (g (n+1) oM)
   ·rw [o]
   ·exact absurd b (t.2 k o)
theorem zbB.keep (h:zbB d L goal N (k+1) i ds)(hd:∀ x l,x<N->l∈L->∀ y∈d x l,y<N)(hv:ds[i]?=some v)(h0:v<0)(hn:ziE d L ds k i=false):zbB d L goal N (k+1) (i+1) ds:=⟨h.1,fun x u hx=>by
 have h1:=h.2 x u hx
 by_cases hxi:x=i
 ·subst hxi
  have hM:¬ Mn d L goal (k+1) x:=fun hm=>by rw [(h.near hd hv h0).2 hm] at hn;cases hn
  rw [hv] at hx
  obtain rfl:=Option.some.inj hx
  rw [if_pos oM]
  rw [if_neg oM] at h1
  rcases h1 with ⟨h2,h3⟩|⟨n,h2,h3,_⟩
  ·refine Or.inl ⟨h2,fun m hm hdm=>?_⟩
   by_cases he:m=k+1
   ·subst he
    exact hM ⟨hdm,h3⟩
   ·exact h3 m oM hdm
  ·omega
 ·by_cases h2:x<i
  ·rw [if_pos h2] at h1
   rw [if_pos oM]
   exact h1
  ·rw [if_neg h2] at h1
   rw [if_neg oM]
   exact h1⟩
theorem zbB.put (h:zbB d L goal N (k+1) i ds)(hd:∀ x l,x<N->l∈L->∀ y∈d x l,y<N)(hv:ds[i]?=some v)(h0:v<0)(hn:ziE d L ds k i=true):zbB d L goal N (k+1) (i+1) (ds.set i ((k+1:Nat):Int)):=⟨by rw [List.length_set];exact h.1,fun x u hx=>by
 by_cases hxi:x=i
 ·subst hxi
  rw [List.getElem?_set_self (List.getElem?_eq_some_iff.1 hv).1] at hx
  obtain rfl:=Option.some.inj hx
  rw [if_pos oM]
  exact Or.inr ⟨k+1,oM,rfl,(h.near hd hv h0).1 hn⟩
 ·rw [List.getElem?_set_ne (fun e=>hxi e.symm)] at hx
  have h1:=h.2 x u hx
  by_cases h2:x<i
  ·rw [if_pos h2] at h1
   rw [if_pos oM]
   exact h1
  ·rw [if_neg h2] at h1
   rw [if_neg oM]
   exact h1⟩
theorem set_count {u:Int}(hv:ds[i]?=some v)(h0:v = -1)(hu:0<=u):(ds.set i u).count (-1)+1=ds.count (-1):=by
 obtain⟨a,e⟩:=List.getElem?_eq_some_iff.1 hv;have b:1<=ds.count (-1):=List.count_pos_iff.2 (by rw [← h0,← e];exact List.getElem_mem a);rw [List.count_set a,e,h0];have:(u==(-1:Int))=false:=by simp;omega
 simp [this];omega
def DsFin (d:Nat->Nat->List Nat) (L:List Nat) (goal:Nat->Bool) (N:Nat) (ds:List Int):Prop:=ds.length=N∧∀ (x:Nat) (v:Int),ds[x]?=some v->(v = -1∧∀ m,¬ Dn d L goal m x)∨∃ n:Nat,v=n∧Mn d L goal n x
theorem zbB.fin (h:zbB d L goal N k N ds)(hd:∀ x l,x<N->l∈L->∀ y∈d x l,y<N)(hno:∀ x,x<N->¬ Mn d L goal k x):DsFin d L goal N ds:=by
 have p:∀ n x,x<N->¬ Mn d L goal (k+n) x:=by
  intro n
  induction n with
  |zero=>exact hno
  |succ n ih =>
   intro x hx hm;obtain⟨l,j,y,o,c⟩:=hm.next;exact ih y (hd x l hx j y o) c
 refine⟨h.1,fun x v hx=>?_⟩;have a:x<N:=by rw [← h.1];exact (List.getElem?_eq_some_iff.1 hx).1
 have c:=h.2 x v hx;rw [if_pos a] at c;rcases c with ⟨i,f⟩|⟨n,_,f⟩
 ·refine Or.inl ⟨i,fun m hm=>?_⟩;obtain⟨b,_,g⟩:=hm.least
  by_cases h5:b<k
  ·exact f b oM g.1
  ·have:=p (b - k) x a;rw [show k+(b - k)=b by omega] at this;exact this g
 ·exact Or.inr ⟨n,f⟩
theorem DsFin.val (h:DsFin d L goal N ds) (hx:x<N):ds[x]?=some (n:Int)↔Mn d L goal n x:=by
 have f:x<ds.length:=by rw [h.1];exact hx
 have c:ds[x]?=some ds[x]:=dD f;constructor
 ·intro h1;rcases h.2 x _ h1 with ⟨a,_⟩|⟨m,a,b⟩
  ·omega
  ·obtain rfl:n=m:=oM;exact b
 ·intro hm;rw [c];rcases h.2 x _ c with ⟨_,a⟩|⟨m,a,b⟩
  ·exact absurd hm.1 (a n)
  ·rw [a,b.uniq hm]
theorem wval_lt (w:List Nat)(h:∀ l∈w,l<6):zcx w<7 ^ w.length∧7 ^ w.length<=6*zcx w+1:=by
 have a:∀ n (w:List Nat),w.length=n->(∀ l∈w,l<6)->zcx w<7 ^ n∧7 ^ n<=6*zcx w+1:=by
  intro n
  induction n with
  |zero =>
   intro w hw _;obtain rfl:=dU hw;simp [zcx]
  |succ n ih =>
   intro w hw hl;rcases zaf w with rfl|⟨u,l,rfl⟩
   ·simp at hw
   ·have b:=ih u (by simpa using hw) (fun x hx=>hl x (by simp [hx]));have c:=hl l sM;rw [zaG,Nat.pow_succ];omega
 exact a w.length w rfl h
theorem zhq {u v:List Nat}(hu:∀ l∈u,l<6)(hv:∀ l∈v,l<6)(h:v.length<u.length):zcx v<zcx u:=by
 have b:=wval_lt u hu;have c:=wval_lt v hv;have a:7 ^ (v.length+1)<=7 ^ u.length:=dV oM h;rw [Nat.pow_succ] at a;omega
structure zdz (d:Nat->Nat->List Nat) (L:List Nat) (goal:Nat->Bool) (start:List Nat) (at_:List Nat) (v:List Nat) (r:Nat):Prop where
 goes:∀ x∈at_,zbu d start v x∧Mn d L goal r x
 all:∀ x,zbu d start v x->Dn d L goal r x->x∈at_
 first:∀ u:List Nat,(∀ l∈u,l∈L)->u.length=v.length->zcx u<zcx v->∀ x,zbu d start u x->¬ Dn d L goal r x
 least:∀ u:List Nat,(∀ l∈u,l∈L)->u.length<v.length+r->∀ x,zbu d start u x->goal x=false
 letters:∀ l∈v,l∈L
 some_:at_≠[]
theorem zdz.begin_ (h:Mn d L goal r x):zdz d L goal [x] [x] [] r:=by
 refine⟨fun y hy=>?_,fun y hy _=>hy.ah,fun u _ hu=>?_,fun u hl hu y hy=>?_,sM,sM⟩
 ·simp at hy;subst hy;exact⟨.nil sM,h⟩
 ·simp at hu;subst hu;intro h;simp [zcx] at h
 ·simp at hu;cases hg:goal y
  ·rfl
  ·exfalso;obtain⟨z,b,a⟩:=zbu.dn (v:=[]) (u:=u) (by simpa using hy) hg hl;have:=b.ah;simp at this;subst this;exact h.2 u.length oM a
theorem zdz.fin {v:List Nat}(h:zdz d L goal start at_ v 0)(hL:∀ l∈L,l<6):Found d start goal L v:=by
 refine⟨h.letters,?_,fun u hu hlt x hx=>?_⟩
 ·obtain⟨x,hx⟩:=List.exists_mem_of_ne_nil _ h.some_;exact⟨x,(h.goes x hx).1,(h.goes x hx).2.1⟩
 ·rcases eU u.length v.length with a|a|a
  ·exact h.least u hu oM x hx
  ·have:=h.first u hu a hlt x hx
   cases hg:goal x
   ·rfl
   ·exact absurd hg this
  ·have:=zhq (u:=u) (v:=v) (fun l hl=>hL l (hu l hl)) (fun l hl=>hL l (h.letters l hl)) a;omega
theorem zdz.exists_ {v:List Nat} (h:zdz d L goal start at_ v (r+1)):∃ (k l:Nat),L[k]?=some l∧∃ x n,n∈at_∧x∈d n l∧Mn d L goal r x:=by
 obtain⟨n,a⟩:=List.exists_mem_of_ne_nil _ h.some_;obtain⟨l,f,y,g,b⟩:=(h.goes n a).2.next;obtain⟨k,c⟩:=eB f;exact⟨k,l,c,y,n,a,g,b⟩
theorem zdz.step {v next:List Nat} (h:zdz d L goal start at_ v (r+1))(hL:Rise L)(hk:L[k]?=some l)(hn:∀ x,x∈next↔∃ n∈at_,x∈d n l∧Mn d L goal r x)(hne:next≠[])
  (hno:∀ (j m:Nat),j<k->L[j]?=some m->∀ n∈at_,∀ x∈d n m,¬ Mn d L goal r x):zdz d L goal start next (v++[l]) r:=by
 have t:∀ l∈L,l<6:=hL.1;have c:=dC hk;have f:∀ (u:List Nat),(∀ m∈u,m∈L)->u.length=v.length+1->∀ x,zbu d start u x->Dn d L goal r x->Mn d L goal r x:=by
  intro u hu hlen x hx hd;refine⟨hd,fun m hm hdm=>?_⟩;obtain⟨s,g,b,y,C,F⟩:=hdm.word hx;have:=h.least (u++s) (fun z hz=>by
   rcases List.mem_append.1 hz with a|a
   ·exact hu z a
   ·exact b z a) (by rw [dN];omega) y C
  rw [this] at F;cases F
 refine⟨fun x hx=>?_,fun x hx hd=>?_,fun u hu hlen hlt x hx hd=>?_,fun u hu hlen=>?_,?_,hne⟩
 ·obtain⟨n,g,b,C⟩:=(hn x).1 hx;exact⟨.snoc (h.goes n g).1 b,C⟩
 ·obtain⟨n,g,b⟩:=hx.inv;have E:n∈at_:=h.all n g ⟨l,c,x,b,hd⟩;exact (hn x).2 ⟨n,E,b,f (v++[l]) (fun m hm=>by
   rcases List.mem_append.1 hm with a|a
   ·exact h.letters m a
   ·rw [List.mem_singleton.1 a];exact c) sM x hx hd⟩
 ·rcases zaf u with rfl|⟨u,m,rfl⟩
  ·simp at hlen
  ·obtain⟨n,g,b⟩:=hx.inv;have o:=hu m sM;have q:∀ z∈u,z∈L:=fun z hz=>hu z (by simp [hz]);have i:u.length=v.length:=by simpa using hlen
   have p:Dn d L goal (r+1) n:=⟨m,o,x,b,hd⟩;rw [zaG,zaG] at hlt;have H:=t m o;have G:=t l c
   by_cases hw:zcx u<zcx v
   ·exact h.first u q i hw n g p
   ·have e:zcx u=zcx v:=oM;obtain rfl:=wval_inj _ u v (dE _) (fun z hz=>t z (q z hz)) (fun z hz=>t z (h.letters z hz)) e;obtain⟨j,B⟩:=eB o;have D:j<k:=by
     rcases eU j k with a|a|a
     ·exact a
     ·subst a;rw [hk] at B;have:=Option.some.inj B;omega
     ·have:=hL.2 k j _ _ hk B a;omega
    exact hno j m D B n (h.all n g p) x b (f _ hu sM x hx hd)
 ·exact h.least u hu (by rw [dN,dZ] at hlen;omega)
 ·intro m hm;rcases List.mem_append.1 hm with a|a
  ·exact h.letters m a
  ·rw [List.mem_singleton.1 a];exact c
theorem lost_of (h:∀ m,¬ Dn d L goal m x):Lost d [x] goal L:=fun v hv y hy=>by
 cases hg:goal y
 ·rfl
 ·exfalso
  obtain⟨z,hz,hd⟩:=zbu.dn (v:=[]) (u:=v) (by simpa using hy) hg hv
  have:=hz.ah
  simp at this
  subst this
  exact h _ hd
theorem goes_congr {d':Nat->Nat->List Nat} {start:List Nat} (hs:∀ x∈start,x<N)(hd:∀ x l,x<N->l∈L->(∀ y,y∈d x l↔y∈d' x l)∧∀ y∈d x l,y<N) {v:List Nat}(hv:∀ l∈v,l∈L):∀ {x:Nat},(zbu d start v x↔zbu d' start v x)∧(zbu d start v x->x<N):=by
 have g:∀ n (v:List Nat),v.length=n->(∀ l∈v,l∈L)->∀ x,(zbu d start v x↔zbu d' start v x)∧(zbu d start v x->x<N):=by
  intro n
  induction n with
  |zero =>
   intro v hv _ x;obtain rfl:=dU hv;exact⟨⟨fun h=>.nil h.ah,fun h=>.nil h.ah⟩,fun h=>hs x h.ah⟩
  |succ n ih =>
   intro v hn hv x;rcases zaf v with rfl|⟨u,l,rfl⟩
   ·simp at hn
   ·have f:=hv l sM;have a:=ih u (by simpa using hn) (fun m hm=>hv m (by simp [hm]));refine⟨⟨fun h=>?_,fun h=>?_⟩,fun h=>?_⟩
    ·obtain⟨m,b,c⟩:=h.inv;exact .snoc ((a m).1.1 b) (((hd m l ((a m).2 b) f).1 x).1 c)
    ·obtain⟨m,b,c⟩:=h.inv;have i:=(a m).1.2 b;exact .snoc i (((hd m l ((a m).2 i) f).1 x).2 c)
    ·obtain⟨m,b,c⟩:=h.inv;exact (hd m l ((a m).2 b) f).2 x c
 exact fun {x}=>g v.length v rfl hv x
theorem zeL {l:List Nat}(h:l.Nodup) (hl:∀ x∈l,x<p):l.length<=p:=by
 have a:l ⊆ fK p:=fun x hx=>List.mem_range.2 (hl x hx);have:=List.Nodup.length_le_of_subset h a;simpa using this
theorem Mn.lt (h:Mn d L goal n x)(hx:x<N)(hd:∀ x l,x<N->l∈L->∀ y∈d x l,y<N):n<N:=by
 have c:∀ n x,x<N->Mn d L goal n x->∃ b:List Nat,b.length=n+1∧b.Nodup∧∀ y∈b,y<N∧∃ m,m<=n∧Mn d L goal m y:=by
  intro n
  induction n with
  |zero=>intro x hx h;exact⟨[x],rfl,sM,fun y a=>by simp at a;subst a;exact⟨hx,0,dE _,h⟩⟩
  |succ n ih =>
   intro x hx h;obtain⟨l,r,y,a,k⟩:=h.next;obtain⟨b,f,g,o⟩:=ih y (hd x l hx r y a) k;refine⟨x :: b,by simp [f],List.nodup_cons.2 ⟨fun hm=>?_,g⟩,fun z j=>?_⟩
   ·obtain⟨_,m,s,i⟩:=o x hm;have:=h.uniq i;omega
   ·rcases List.mem_cons.1 j with rfl|j
    ·exact⟨hx,n+1,dE _,h⟩
    ·obtain⟨p,m,t,q⟩:=o z j;exact⟨p,m,oM,q⟩
 obtain⟨b,k,f,g⟩:=c n x hx h;have:=zeL f fun y a=>(g y a).1;omega
end
def IntP:Lay Int:=fun _ _ _ r n=>r=.int .i64 n
theorem IntP.ok:Lay.Ok IntP:=⟨fun h _ _=>h,fun h _ _=>h⟩
theorem Lst.bf (h:Reads W lo hi 1 A xs.length (ints xs)):Lst IntP W lo hi A xs:=⟨ints xs,h,fun i r x hr hx=>by
 simp only [ints,dS,hx,Option.map_some] at hr
 exact (Option.some.inj hr).symm⟩
theorem Lst.int (h:Lst IntP W lo hi A xs)(hk:k<xs.length):∃ b o x,A=some ⟨b,o,none⟩∧lo<=b∧b<hi∧Hid (xs[k]?=some x)∧W.cell? ⟨b,o+k,none⟩=some (.int .i64 x):=by
 obtain⟨b,o,r,x,e,a,c,d,f,g⟩:=h.get hk;exact⟨b,o,x,e,a,c,d,by rw [f,g]⟩
def nearL (rows:List (List Nat)) (ds:List Int) (k:Int):Bool:=rows.any fun ys=>ys.any fun y=>ds.getD y (-1)==k
theorem near_row {d:Nat->Nat->List Nat}   :nearL (L.map fun l=>d x l) ds (k:Int)=ziE d L ds k x:=by
 unfold nearL ziE;rw [List.any_map];rfl
theorem any_stop {α:Type} {l:List α} {p:α->Bool}  {x:α}(h:l[k]?=some x)(hp:p x=true):l.any p=true:=List.any_eq_true.2 ⟨x,dC h,hp⟩
theorem any_step {α:Type} {l:List α} {p:α->Bool}  {x:α}(h:l[k]?=some x)(hk:(l.take k).any p=false)(hp:p x=false):(l.take (k+1)).any p=false:=by
 rw [dO,h];simp [hk,hp]
theorem spec_l4Near {rows:List (List Nat)}  {k:Int} (h:Lst (LstP zbs) w lo hi A rows)(h':Lst IntP w lo' hi' B ds)(hr:rows.length=r)(hn:ds.length=n)(hb:∀ ys∈rows,∀ y∈ys,y<n) :
  Calls Tryz.prog 277 #[.slice A r c,.slice B n c',k] w fun e w'=>e=.returned (.bool (nearL rows ds k))∧w=w':=by
 have E:=za hb;have C:=za hr;have F:=za hn;have t:=h.len;have u:=h'.len;rw [hr] at t;rw [hn] at u;clear hb hr hn
 go_enter Tryz.func277,Tryz.ntmps277
 go_wp2
 go_loop [7,8] (fun i _=>∃ a:Nat,i=.int .i64 a∧a<=r∧Hid ((rows.take a).any (fun ys=>ys.any fun y=>ds.getD y (-1)==k)=false)) (fun i _=>r - (intOf i).toNat)
 case atStart=>exact⟨0,rfl,dG _,rfl⟩
 case round =>
  obtain⟨a,rfl,R,s⟩:=hrel
  by_cases hlt:a<r
  ·obtain⟨b,o,v,ys,rfl,_,_,l,S,L,Q,rfl,D⟩:=h.get (show a<rows.length by rw [C.out];exact hlt);have I:=D.len;go_wp2
   go_loop [8] (fun i=>∃ j:Nat,i=.int .i64 j∧j<=ys.length∧Hid ((ys.take j).any (fun y=>ds.getD y (-1)==k)=false)) (fun i=>ys.length - (intOf i).toNat)
   case atStart=>exact⟨0,rfl,dG _,rfl⟩
   case round =>
    obtain⟨j,rfl,T,d⟩:=hrel
    by_cases hlj:j<ys.length
    ·obtain⟨M,U,y,rfl,_,_,m,G⟩:=D.num hlj;have z:=E.out ys (dC l.out) y (dC m.out);obtain⟨O,V,v,rfl,_,_,J,H⟩:=h'.int (show y<ds.length by rw [F.out];exact z);have q:=za (show ds.getD y (-1)=v by rw [dF,J.out];rfl)
     by_cases hvk:v=k
     ·subst hvk;have f:=za (show nearL rows ds v=true from any_stop l.out (any_stop m.out (by rw [q.out];simp)));go_wp2;go_ret;exact⟨zj (by rw [f.out]),rfl⟩
     ·have x:(v==k)=false:=by simp;omega
      have g:=za (any_step (p:=fun y=>ds.getD y (-1)==k) m.out d.out (show (ds.getD y (-1)==k)=false by rw [q.out];exact x));go_wp2
      go_round
      case rel=>exact⟨j+1,gM,oM,g⟩
      case measure=>simp [intOf];omega
    ·obtain rfl:j=ys.length:=oM;rw [eI] at d;have g:=za (any_step (p:=fun ys=>ys.any fun y=>ds.getD y (-1)==k) l.out s.out d.out);go_wp2
     go_round
     case rel=>exact⟨a+1,gM,oM,g⟩
     case measure=>simp [intOf];omega
  ·obtain rfl:a=r:=oM;have f:=za (show nearL rows ds k=false by
    have:=s.out;rw [dK (by rw [C.out];exact dE _)] at this;exact this)
   go_wp2;go_ret;exact⟨zj (by rw [f.out]),rfl⟩
theorem zbB.known {d:Nat->Nat->List Nat}  {goal:Nat->Bool}   (h:zbB d L goal N k i ds)(hv:ds[i]?=some v)(h0:0<=v):¬ Mn d L goal k i:=fun hm=>by
 have h1:=h.2 i v hv
 rw [if_neg oM] at h1
 rcases h1 with ⟨h2,_⟩|⟨n,h2,_,h3⟩
 ·omega
 ·have:=h3.uniq hm
  omega
theorem zbB.neg {d:Nat->Nat->List Nat}  {goal:Nat->Bool}    (h:zbB d L goal N k i ds)(hv:ds[x]?=some v)(h0:v<0):v = -1:=by
 rcases h.2 x v hv with ⟨a,_⟩|⟨n,_,a,_⟩
 ·exact a
 ·omega
def RetDs (d:Nat->Nat->List Nat) (L:List Nat) (goal:Nat->Bool) (N base gd cap:Nat) (w:World) (e:Ending) (w':World):Prop:=
 e=.returned (.tuple #[])∧∃ ds',Hid (DsFin d L goal N ds')∧w'.ownsRow base 3 1 (.slice (some gd) N cap) N (ints ds')∧Frm (fun k=>k=gd) w w'
theorem spec_l4Dist {gd:Nat}  {d:Nat->Nat->List Nat}  {goal:Nat->Bool} {ds:List Int} (h:Lst P3 w lo hi A (mvs d L N))(hg:gd<lo∨hi<=gd) (zje:w.ownsRow base 3 1 (.slice (some gd) N cap) N (ints ds))(hds:zbB d L goal N 1 0 ds)(hN:N<=1048576)(hd:∀ x l,x<N->l∈L->∀ y∈d x l,y<N) :
  Calls Tryz.prog 219 #[.slice A N c,.slice (some gd) N cap] w (RetDs d L goal N base gd cap w):=by
 have Z:=za (fun W (hW:Frm (fun k=>k=gd) w W)=>h.frm P3.ok hW (fun k E O e=>oM));have M:=za hd;have t:=za zje;have D:=za hds;clear h hd zje hds
 go_enter Tryz.func219,Tryz.ntmps219
 go_wp2
 go_loopw [4,5,6] (fun m v _ wr=>∃ (k:Nat) (ds:List Int) (g:Bool),m=.bool g∧v=.int .i64 ((k:Int)+1)∧k<=N+1∧Hid (if g=true then zbB d L goal N (k+1) 0 ds∧k+ds.count (-1)<=N else DsFin d L goal N ds)∧wr.ownsRow base 3 1 (.slice (some gd) N cap) N (ints ds)∧Frm (fun k=>k=gd) w wr) (fun _ v _ _=>N+3 - (intOf v).toNat)
 case atStart=>exact⟨0,ds,true,rfl,rfl,oM,(show Hid _ from by
  rw [if_pos rfl];refine⟨D.out,?_⟩;have:=List.count_le_length (l:=ds) (a:=(-1:Int));rw [D.out.1] at this;omega),t.out,Frm.refl _ _⟩
 case round =>
  clear t D;clear ds;obtain⟨k,ds,g,rfl,rfl,hk,b,zje,f⟩:=hrel;cases g
  ·have zjh:=za (show RetDs d L goal N base gd cap w (.returned (.tuple #[])) wr from ⟨rfl,ds,(show DsFin d L goal N ds by have:=b.out;simpa using this),zje,f⟩);clear zje;go_wp2;exact bodyPost_ret (v:=.tuple #[]) (by simp [results,Tryz.results219,go_sem]) rfl zjh.out
  ·obtain⟨z,Q⟩:zbB d L goal N (k+1) 0 ds∧k+ds.count (-1)<=N:=by have:=b.out;simpa using this
   have s:=za z;clear b z;obtain⟨J,F⟩:∃ J,Hid (ds.count (-1)=J):=⟨_,rfl⟩;rw [F.out] at Q;go_wp2
   go_loopw [4,6] (fun m i wr=>∃ (i':Nat) (ds:List Int) (g:Bool),m=.bool g∧i=.int .i64 i'∧i'<=N∧Hid (zbB d L goal N (k+1) i' ds∧ds.count (-1)+(if g=true then 1 else 0)<=J∧(g=false->∀ x,x<i'->¬ Mn d L goal (k+1) x))∧wr.ownsRow base 3 1 (.slice (some gd) N cap) N (ints ds)∧Frm (fun k=>k=gd) w wr) (fun _ i _=>N - (intOf i).toNat)
   case atStart=>exact⟨0,ds,false,rfl,rfl,dG _,(show Hid _ from ⟨s.out,by rw [F.out];simp,fun _ x hx=>oM⟩),zje,f⟩
   case round =>
    clear s zje f F;clear ds;obtain⟨i,ds,g,rfl,rfl,hi,b,zje,f⟩:=hrel
    by_cases hlt:i<N
    ·have n:ds.length=N:=b.out.1.1;obtain⟨bi,oi,v,Y,_,_,I,hcv⟩:=(Lst.bf (xs:=ds) (by rw [n];exact eE zje)).int (show i<ds.length by omega);obtain⟨rfl,rfl⟩:gd=bi∧0=oi:=by injection Y with e;injection e with e1 e2;exact⟨e1,e2⟩
     rw [dW] at hcv;clear Y
     by_cases hv0:v<0
     ·have V:=b.out.1.neg I.out hv0;subst V;obtain⟨bm,om,r,T,rfl,_,_,R,ae,Ar,cr,rfl,H⟩:=(Z.out wr f).get (show i<(mvs d L N).length by rw [zda];exact hlt);have B:=za (show T=L.map fun l=>d i l by
       have E:=R.out;rw [mvs,dS,gS hlt] at E;exact (Option.some.inj E).symm)
      have q:=za (show nearL T ds (k:Int)=ziE d L ds k i by rw [B.out];exact near_row);have o:=Lst.bf (xs:=ds) (by rw [n];exact eE zje);have X:=za (spec_l4Near (c:=cr) (c':=cap) (k:=(k:Int)) H o rfl n (fun ys hys y hy=>by
       rw [B.out] at hys;obtain⟨l,hl,rfl⟩:=List.mem_map.1 hys;exact M.out i l hlt hl y hy))
      have af:(k:Int)+1 - 1=(k:Int):=oM;cases hnb:ziE d L ds k i
      ·have G:=za (q.out.trans hnb);have j:=za hnb;clear hnb H o;have hst2:=za (show zbB d L goal N (k+1) (i+1) ds∧ds.count (-1)+(if g=true then 1 else 0)<=J∧(g=false->∀ x,x<i+1->¬ Mn d L goal (k+1) x) from
        ⟨b.out.1.keep M.out I.out hv0 j.out,b.out.2.1,fun hm x hx=>by
         by_cases e:x=i
         ·subst e;intro hM;rw [(b.out.1.near M.out I.out hv0).2 hM] at j;exact absurd j.out dM
         ·exact b.out.2.2 hm x oM⟩)
       go_wp2_with (go_at_call 277;with_reducible refine X.out.mono ?_;rw [G.out];rintro e w4 ⟨rfl,rfl⟩)
       go_roundw
       case rel=>exact⟨i+1,ds,g,rfl,gM,oM,hst2,zje,f⟩
       case measure=>simp [intOf];omega
      ·have G:=za (q.out.trans hnb);have j:=za hnb;clear hnb H o;have hst2:=za (show zbB d L goal N (k+1) (i+1) (ds.set i ((k+1:Nat):Int))∧(ds.set i ((k+1:Nat):Int)).count (-1)+(if true=true then 1 else 0)<=J∧(true=false->∀ x,x<i+1->¬ Mn d L goal (k+1) x) from
        ⟨b.out.1.put M.out I.out hv0 j.out,by
         have E:=set_count (u:=((k+1:Nat):Int)) I.out rfl oM;have O:=b.out.2.1;simp only [if_true];cases g
         ·simp at O;omega
         ·simp at O;omega,fun h=>by cases h⟩)
       have f0:=zje.frozenAt i;have S:=zje.stored i (.int .i64 ((k:Int)+1));have C:(ints ds).set i (.int .i64 ((k:Int)+1))=ints (ds.set i ((k+1:Nat):Int)):=by
        rw [ints,ints,iR];rfl
       rw [C] at S;clear C;go_wp2_with (go_at_call 277;with_reducible refine X.out.mono ?_;rw [G.out];rintro e w4 ⟨rfl,rfl⟩)
       go_roundw
       case rel=>exact⟨i+1,_,true,rfl,gM,oM,hst2,S.1,f.cell (p:=⟨gd,i,none⟩) rfl _⟩
       case measure=>simp [intOf];omega
     ·have hst2:=za (show zbB d L goal N (k+1) (i+1) ds∧ds.count (-1)+(if g=true then 1 else 0)<=J∧(g=false->∀ x,x<i+1->¬ Mn d L goal (k+1) x) from
       ⟨b.out.1.skip I.out oM,b.out.2.1,fun hm x hx=>by
        by_cases e:x=i
        ·subst e;exact b.out.1.known I.out oM
        ·exact b.out.2.2 hm x oM⟩)
      go_wp2;go_roundw
      case rel=>exact⟨i+1,ds,g,rfl,gM,oM,hst2,zje,f⟩
      case measure=>simp [intOf];omega
    ·obtain rfl:N=i:=oM;have zjh:=za (show if g=true then zbB d L goal N (k+1+1) 0 ds∧k+1+ds.count (-1)<=N else DsFin d L goal N ds by
      obtain⟨E,O,h3⟩:=b.out;cases g
      ·rw [if_neg dM];exact E.fin M.out (h3 rfl)
      ·rw [if_pos rfl];refine⟨E.round_,?_⟩;simp at O;omega)
     have U:k+1<=N+1:=oM;go_wp2;go_roundw
     case rel=>exact⟨k+1,ds,g,rfl,gM,U,zjh,zje,f⟩
     case measure=>simp [intOf];omega
theorem lbs_snoc (v:List Nat) (l:Nat):lbs (v++[l])=lbs v++[((97+l:Nat):Int)]:=by simp [lbs]
theorem zgo (a b:List Int):strOfNums (a++b)=strOfNums a++strOfNums b:=by
 apply ByteArray.ext;simp [strOfNums,ByteArray.data_append]
def wstr (v:List Nat):ByteArray:=strOfNums (lbs v)
theorem wstr_snoc (v:List Nat) (l:Nat):wstr (v++[l])=wstr v++strOfNums [((97+l:Nat):Int)]:=by rw [wstr,lbs_snoc,zgo];rfl
theorem zhp (v:List Nat):(wstr v).size=v.length:=by rw [wstr,strOfNums_size];simp [lbs]
theorem zeu (h1:l<6) :
  Calls Tryz.prog 138 #[l] w fun e w'=>e=.returned (.string (strOfNums [((97+l:Nat):Int)]))∧Ext w w':=by
 have b:=zis w;have a:IntKind.u8.wrap (97+(l:Int))=((97+l:Nat):Int):=by rw [IntKind.wrap_u8];omega
 go_enter Tryz.func138,Tryz.ntmps138
 go_wp2;go_ret;exact⟨by first|rfl|(rw [a];rfl)|simp [a],(dB _).alloc _⟩
def RetClo (w:World) (d:Nat->Nat->List Nat) (ds:List Int) (at_:List Nat) (l:Nat) (r:Int) (N:Nat) (e:Ending) (w':World):Prop:=
 ∃ nx:List Nat,zbM w nx e w'∧Hid (nx.length<=N∧∀ x,x∈nx↔∃ n∈at_,x∈d n l∧ds[x]?=some r)
theorem ziT {lo2 hi2 c2:Nat} {C:Option Addr} {d:Nat->Nat->List Nat}     {r:Int} (h:Lst P3 w lo hi A (mvs d L N))(h':Lst IntP w lo' hi' B ds)(h2:Lst zbs w lo2 hi2 C at_)(hm:at_.length=m)(hat:∀ n∈at_,n<N)(hl:L[k]?=some l)(hds:ds.length=N)(hN:N<=1048576)(hd:∀ x l,x<N->l∈L->∀ y∈d x l,y<N) :
  Calls Tryz.prog 221 #[.slice A N c,.slice B N c',.slice C m c2,k,r] w (RetClo w d ds at_ l r N):=by
 have HM:=za (fun W (hW:Ext w W)=>h.ext P3.ok hW);have HD:=za (fun W (hW:Ext w W)=>h'.ext IntP.ok hW);have HA:=za (fun W (hW:Ext w W)=>h2.ext zbs.ok hW);have Hd:=za (fun x hx=>hd x l hx (dC hl));have ae:=za hat;have Hl:=za hl;have Hm:=za hm;have E:=za hds;have ai:=h2.len;rw [hm] at ai;have ag:k<L.length:=(List.getElem?_eq_some_iff.1 hl).1;have J:∀ n,n<N->(L.map fun l=>d n l)[k]?=some (d n l):=fun n _=>by rw [dS,hl];rfl
 have ad:=za J;clear h h' h2 hd hat hl hm hds J
 go_enter Tryz.func221,Tryz.ntmps221
 go_upto_region 2 with fail
 have Y:=(dB w).alloc (.cells #[] 3);have s:=World.ownsRow_lit (base:=w.heap.size) (e:=3) (size:=1) w #[] 0 (dE _) lM rfl;generalize hg1:(some ⟨w.heap.size,0,none⟩:Option Addr)=A1 at *;clear hg1;generalize w.alloc _=w0 at *;go_wp2_with fail
 go_loopw [11,12,13,14] (fun v i _ _ wr=>∃ (a:Nat) (f:List Nat),i=.int .i64 a∧a<=m∧Hid (f.Nodup∧∀ x,x∈f↔∃ n∈at_.take a,x∈d n l∧ds[x]?=some r)∧wr.ownsRow w.heap.size 3 1 v f.length (zae f)∧Ext w wr) (fun _ i _ _ _=>m - (intOf i).toNat)
 case atStart=>exact⟨0,[],rfl,dG _,(show Hid _ from ⟨sM,sM⟩),by simpa [zae] using s,Y⟩
 case round =>
  clear s Y;obtain⟨a,f,rfl,ha,b,zje,hx⟩:=hrel;obtain⟨A0,I,rfl⟩:=zg zje
  by_cases hlt:a<m
  ·obtain⟨ba,oa,n,rfl,_,_,hn,M⟩:=(HA.out w (dB _)).num (show a<at_.length by rw [Hm.out];exact hlt);have t:=ae.out n (dC hn.out);obtain⟨bm,om,v,aa,rfl,_,_,V,Q,Ar,cr,rfl,X⟩:=(HM.out w (dB _)).get (show n<(mvs d L N).length by rw [zda];exact t);have u:=za (show aa=L.map fun l=>d n l by
    have g:=V.out;rw [mvs,dS,gS t] at g;exact (Option.some.inj g).symm)
   have ah:k<aa.length:=by rw [u.out,List.length_map];exact ag
   obtain⟨br,aE,v,p,rfl,_,_,al,S,Ay,cy,rfl,H⟩:=X.get ah;have D:=za (show p=d n l by
    have g:=al.out;rw [u.out,ad.out n t] at g;exact (Option.some.inj g).symm)
   have ao:=H.len;have HY:=za (fun W (hW:Ext w W)=>H.ext zbs.ok hW);have Z:=za (show ∀ y∈p,y<N by rw [D.out];exact Hd.out n t);have aj:=za (show at_.take (a+1)=at_.take a++[n] by rw [dO,hn.out];rfl);have O:=hx.aa M;have R:=hx.aa Q;have T:=hx.aa S;clear H M Q S X;go_wp2_with fail
   clear O R T
   go_loopw [11,14] (fun v i wr2=>∃ (j:Nat) (f:List Nat),i=.int .i64 j∧j<=p.length∧Hid (f.Nodup∧∀ x,x∈f↔(∃ n∈at_.take a,x∈d n l∧ds[x]?=some r)∨(x∈p.take j∧ds[x]?=some r))∧wr2.ownsRow w.heap.size 3 1 v f.length (zae f)∧Ext w wr2) (fun _ i _=>p.length - (intOf i).toNat)
   case atStart=>exact⟨0,f,rfl,dG _,(show Hid _ from ⟨b.out.1,fun x=>by rw [b.out.2 x];simp⟩),zje,hx⟩
   case round =>
    clear zje hx b;obtain⟨j,f,rfl,hj,b,zje,hx⟩:=hrel;obtain⟨A0,I,rfl⟩:=zg zje
    by_cases hlj:j<p.length
    ·obtain⟨aA,oy,y,rfl,_,_,hy,aC⟩:=(HY.out _ hx).num hlj;have ak:=Z.out y (dC hy.out);obtain⟨bd,od,v,rfl,_,_,hv,aB⟩:=(HD.out _ hx).int (show y<ds.length by rw [E.out];exact ak);have G:=za (show p.take (j+1)=p.take j++[y] by rw [dO,hy.out];rfl)
     by_cases hvr:v=r
     ·have af:=za (show ds[y]?=some r by rw [hv.out,hvr]);subst hvr;have q:=Lst.ai zje;have HI:=za (spec_l4In (c:=I) (x:=y) q rfl);have aq:f.length<=N:=zeL b.out.1 fun x hx=>by
       rcases (b.out.2 x).1 hx with ⟨_,_,_,g⟩|⟨_,g⟩<;>· have:=(List.getElem?_eq_some_iff.1 g).1;rw [E.out] at this;exact this
      by_cases hin:y∈f
      ·have F:=za (show decide (y∈f)=true by simp [hin]);have o:=za (show f.Nodup∧∀ x,x∈f↔(∃ n∈at_.take a,x∈d n l∧ds[x]?=some v)∨(x∈p.take (j+1)∧ds[x]?=some v) from ⟨b.out.1,fun x=>by
        rw [b.out.2 x,G.out,gZ,fF];constructor
        ·rintro (h|⟨h,h'⟩)
         ·exact Or.inl h
         ·exact Or.inr ⟨Or.inl h,h'⟩
        ·rintro (h|⟨h|h,h'⟩)
         ·exact Or.inl h
         ·exact Or.inr ⟨h,h'⟩
         ·subst h;exact (b.out.2 x).1 hin⟩)
       clear q hin;go_wp2_with (go_at_call 278;with_reducible refine HI.out.mono ?_;rw [F.out];rintro e w4 ⟨rfl,rfl⟩)
       go_roundw
       case rel=>exact⟨j+1,f,gM,oM,o,zje,hx⟩
       case measure=>simp [intOf];omega
      ·have F:=za (show decide (y∈f)=false by simp [hin]);have o:=za (show (f++[y]).Nodup∧∀ x,x∈f++[y]↔(∃ n∈at_.take a,x∈d n l∧ds[x]?=some v)∨(x∈p.take (j+1)∧ds[x]?=some v) from ⟨List.nodup_append.2 ⟨b.out.1,sM,fun x hx z hz e=>by simp at hz;subst hz;subst e;exact hin hx⟩,fun x=>by
        rw [gZ,fF,b.out.2 x,G.out,gZ,fF];constructor
        ·rintro ((h|⟨h,h'⟩)|h)
         ·exact Or.inl h
         ·exact Or.inr ⟨Or.inl h,h'⟩
         ·subst h;exact Or.inr ⟨Or.inr rfl,af.out⟩
        ·rintro (h|⟨h|h,h'⟩)
         ·exact Or.inl (Or.inl h)
         ·exact Or.inl (Or.inr ⟨h,h'⟩)
         ·exact Or.inr h⟩)
       clear q hin;go_wp2_with (first
        |(go_at_call 278;with_reducible refine HI.out.mono ?_;rw [F.out];rintro e w4 ⟨rfl,rfl⟩)
        |(at_builtin;refine zU w wr rfl _ _ _ rfl 3 _ 1 8 Tryz.underlying110 zS rfl dM (.slice A0 f.length I) _ _ _ _ rfl rfl hx zje rfl (zaL _) lM oM ?_;intro v' w5 hext5 zjq hg5 hat5))
       go_roundw
       case rel=>exact⟨j+1,f++[y],gM,oM,o,by rw [dN,zdJ];exact zjq,hext5⟩
       case measure=>simp [intOf];omega
     ·have aD:(v==r)=false:=by simp;omega
      have o:=za (show f.Nodup∧∀ x,x∈f↔(∃ n∈at_.take a,x∈d n l∧ds[x]?=some r)∨(x∈p.take (j+1)∧ds[x]?=some r) from ⟨b.out.1,fun x=>by
       rw [b.out.2 x,G.out,gZ,fF];constructor
       ·rintro (h|⟨h,h'⟩)
        ·exact Or.inl h
        ·exact Or.inr ⟨Or.inl h,h'⟩
       ·rintro (h|⟨h|h,h'⟩)
        ·exact Or.inl h
        ·exact Or.inr ⟨h,h'⟩
        ·subst h;rw [hv.out] at h';exact absurd (Option.some.inj h') hvr⟩)
      clear hvr;go_wp2_with fail
      go_roundw
      case rel=>exact⟨j+1,f,gM,oM,o,zje,hx⟩
      case measure=>simp [intOf];omega
    ·obtain rfl:j=p.length:=oM;have o:=za (show f.Nodup∧∀ x,x∈f↔∃ n∈at_.take (a+1),x∈d n l∧ds[x]?=some r from ⟨b.out.1,fun x=>by
      rw [b.out.2 x,eI,D.out,aj.out];constructor
      ·rintro (⟨z,g,h2⟩|⟨g,h2⟩)
       ·exact⟨z,by simp [g],h2⟩
       ·exact⟨n,sM,g,h2⟩
      ·rintro ⟨z,g,h2⟩;rcases List.mem_append.1 g with g|g
       ·exact Or.inl ⟨z,g,h2⟩
       ·rw [List.mem_singleton.1 g] at h2;exact Or.inr h2⟩)
     go_wp2_with fail
     go_roundw
     case rel=>exact⟨a+1,f,gM,oM,o,zje,hx⟩
     case measure=>simp [intOf];omega
  ·obtain rfl:a=m:=oM;have U:=za (show RetClo w d ds at_ l r N (.returned (.slice A0 f.length I)) wr from by
    refine⟨f,⟨A0,I,rfl,zje,hx⟩,(show Hid _ from ⟨zeL b.out.1 fun x hx=>?_,fun x=>?_⟩)⟩
    ·obtain⟨_,_,_,g⟩:=(b.out.2 x).1 hx;have:=(List.getElem?_eq_some_iff.1 g).1;rw [E.out] at this;exact this
    ·rw [b.out.2 x,dK (by rw [Hm.out];exact dE _)])
   clear zje;go_wp2;go_ret;exact U.out
def wl (s:ByteArray):List Nat:=s.data.toList.map fun b=>b.toNat - 97
theorem zey (s:ByteArray):(wl s).length=s.size:=by simp [wl]
theorem zex (hk:k<s.size):(wl s)[k]?=some (s[k].toNat - 97):=by
 unfold wl;rw [dS,zci s k hk];rfl
theorem zaU (h:zaW s=true) (hk:k<s.size):97<=s[k].toNat∧s[k].toNat<=102:=by
 unfold zaW at h;simp only [dI,eH] at h;have:=h.2 s[k] (dC (zci s k hk));simp only [zcA,decide_eq_true_eq] at this;omega
theorem zaV (h:zaW s=true):s.size<=50000:=by
 unfold zaW at h;simp only [dI,decide_eq_true_eq] at h;exact h.1
theorem zhK (h:zaW s=true):∀ l∈wl s,l<6:=by
 intro l hl;obtain⟨k,b⟩:=eB hl;have a:=(List.getElem?_eq_some_iff.1 b).1;rw [zey] at a;rw [zex a] at b;have:=zaU h a;have:=Option.some.inj b;omega
def alB (ls:List Nat):Nat:=ls.foldl (fun u l=>u|||2 ^ l) 0
theorem alB_snoc (ls:List Nat) (l:Nat):alB (ls++[l])=alB ls|||2 ^ l:=by simp [alB]
theorem zgG (ls:List Nat) (k:Nat):(alB ls).testBit k=true↔k∈ls:=by
 have a:∀ (ls:List Nat) (u:Nat),(ls.foldl (fun u l=>u|||2 ^ l) u).testBit k=true↔u.testBit k=true∨k∈ls:=by
  intro ls
  induction ls with
  |nil=>intro u;simp
  |cons l r ih =>
   intro u;rw [iW,ih,Nat.testBit_or,Nat.testBit_two_pow,Bool.or_eq_true,decide_eq_true_eq,List.mem_cons];constructor
   ·rintro ((h|h)|h)
    ·exact Or.inl h
    ·exact Or.inr (Or.inl h.symm)
    ·exact Or.inr (Or.inr h)
   ·rintro (h|h|h)
    ·exact Or.inl (Or.inl h)
    ·exact Or.inl (Or.inr h.symm)
    ·exact Or.inr h
 have:=a ls 0;simpa [alB] using this
theorem alB_lt (h:∀ l∈ls,l<6):alB ls<64:=Nat.lt_pow_two_of_testBit (n:=6) _ fun k hk=>by
 rw [eM]
 intro hb
 have:=h k ((zgG ls k).1 hb)
 omega
def inB (s:ByteArray) (a:Nat):Bool:=decide (s.size<=50000)&&zdK s a
theorem zaQ (h:inB s a=true):zaW s=true:=by
 unfold inB at h;simp only [dI,decide_eq_true_eq] at h;unfold zaW;simp only [dI,decide_eq_true_eq];refine⟨h.1,?_⟩;rw [eH];intro b hb;have c:=h.2;unfold zdK at c;rw [eH] at c;have d:=c b hb;unfold hasB ltr at d;simp only [dI,decide_eq_true_eq] at d;unfold zcA;rw [decide_eq_true_eq];have f:=d.1
 split at f<;>omega
theorem inB_iff :inB s a=true↔zaW s=true∧alB (wl s)&&&a=alB (wl s):=by
 constructor
 ·intro h;have f:=zaQ h;refine⟨f,Nat.eq_of_testBit_eq fun k=>?_⟩;rw [iX];cases hk:(alB (wl s)).testBit k
  ·rfl
  ·rw [Bool.true_and];have g:=(zgG _ k).1 hk;obtain⟨i,d⟩:=eB g;have c:=(List.getElem?_eq_some_iff.1 d).1;rw [zey] at c;rw [zex c] at d;have j:=zaU f c;have e:=Option.some.inj d;unfold inB zdK at h;simp only [dI,eH] at h;have:=h.2 s[i] (dC (zci s i c));unfold hasB ltr at this;rw [if_neg oM] at this;simp only [dI] at this;rw [← e,← this.2]
   congr 1
   omega
 ·rintro ⟨f,h⟩;unfold inB;simp only [dI,decide_eq_true_eq];refine⟨zaV f,?_⟩;unfold zdK;rw [eH];intro b j;obtain⟨i,d⟩:=eB j;have c:i<s.size:=by have:=(List.getElem?_eq_some_iff.1 d).1;simpa using this
  rw [zci s i c] at d;obtain rfl:=Option.some.inj d;have l:=zaU f c;unfold hasB ltr;rw [if_neg oM];have g:(alB (wl s)).testBit (s[i].toNat - 97)=true:=(zgG _ _).2 (dC (zex c));rw [← h,iX,dI] at g;simp only [dI,decide_eq_true_eq];refine⟨oM,?_⟩;rw [show ((s[i].toNat:Int) - 97).toNat=s[i].toNat - 97 by omega];exact g.2
theorem zdL (hs:s.size<=9223372036854775807) :
  Calls Tryz.prog 222 #[s] w fun e w'=>e=.returned (.tuple #[.int .i64 (if zaW s=true then alB (wl s) else 0:Nat),.bool (zaW s)])∧w=w':=by
 cases hw:zaW s
 ·have f:=za hw;clear hw
  go_enter Tryz.func222,Tryz.ntmps222
  go_wp2_with (go_at_call 141;refine (zbd s _ hs).mono ?_;rw [f.out];rintro e w' ⟨rfl,rfl⟩)
  go_ret2;exact⟨rfl,rfl⟩
 ·have q:=zaV hw;have p:=za (fun k o=>zaU hw (k:=k) o);have t:=za (zhK hw);have f:=za hw;clear hw
  go_enter Tryz.func222,Tryz.ntmps222
  go_wp2_with (go_at_call 141;refine (zbd s _ hs).mono ?_;rw [f.out];rintro e w' ⟨rfl,rfl⟩)
  go_loop [4,5] (fun v i=>∃ k u:Nat,k<=s.size∧i=.int .i64 k∧v=.int .i64 u∧u<64∧Hid (u=alB ((wl s).take k))) (fun _ i=>s.size - (intOf i).toNat)
  case atStart=>exact⟨0,0,dG _,rfl,rfl,oM,rfl⟩
  case round =>
   obtain⟨k,u,o,rfl,rfl,r,d⟩:=hrel
   by_cases hlt:k<s.size
   ·have g:=p.out k hlt;obtain⟨l,h⟩:∃ l:Nat,Hid ((s[k].toNat:Int) - 97=l):=⟨s[k].toNat - 97,by unfold Hid;omega⟩;have j:l<6:=oH h.out;have m:=za (show alB ((wl s).take (k+1))=u|||2 ^ l by
     rw [dO,zex hlt,eD,alB_snoc,← d.out]
     congr 2
     have:=h.out;omega)
    have c:=za (show bits .or .i64 (u:Nat) ((2:Int) ^ l)=((u|||2 ^ l:Nat):Int) by
     have:=zbE (a:=u) tM (Sm.bit (n:=l) oM);rw [show (((2:Nat) ^ l:Nat):Int)=(2:Int) ^ l by simp] at this;exact this)
    have b:u|||2 ^ l<64:=eO (n:=6) r (Nat.pow_lt_pow_right oM j)
    have x:=c.out;clear g;go_wp2_with (first
     |(go_at_call 144;refine (zbj s k hlt _).mono ?_;rw [h.out];rintro e w' ⟨rfl,rfl⟩)
     |(go_at_call 270;refine (zfQ l oM _).mono ?_;rintro e w' ⟨rfl,rfl⟩))
    go_round
    case rel=>exact⟨k+1,u|||2 ^ l,oM,gM,by first|rfl|rw [c.out],b,m.symm⟩
    case measure=>simp [intOf];omega
   ·obtain rfl:k=s.size:=oM;have zjh:=za (show u=alB (wl s) by rw [d.out,dK (by rw [zey];exact dE _)]);go_wp2;go_ret2;exact⟨by rw [zjh.out];rfl,rfl⟩
theorem zah (hs:s.size<=9223372036854775807)(ha:a<=63) :
  Calls Tryz.prog 146 #[s,a] w fun e w'=>e=.returned (.bool (inB s a))∧w=w':=by
 have d:=za (show (decide ((0:Int)<=a∧(a:Int)<=63))=true by simp;omega);cases hw:zaW s
 ·have g:=za (show inB s a=false by
   rw [eM];intro h;rw [zaQ h] at hw;cases hw)
  have c:=za hw;clear hw
  go_enter Tryz.func146,Tryz.ntmps146
  go_wp2_with (go_at_call 222;refine (zdL hs).mono ?_;rw [c.out];rintro e w' ⟨rfl,rfl⟩)
  go_ret;exact⟨zj (by rw [g.out]),rfl⟩
 ·obtain⟨u,i⟩:∃ u,Hid (alB (wl s)=u):=⟨_,rfl⟩;have j:u<64:=by rw [← i.out];exact alB_lt (zhK hw)
  have f:=za (zbO (a:=u) (b:=a) tM tM);have k:=f.out;have g:=za (show inB s a=(((u&&&a:Nat):Int)==(u:Int)) by
   rw [gI,inB_iff,i.out,beq_iff_eq];constructor
   ·rintro ⟨_,h⟩;rw [h]
   ·intro h;exact⟨hw,oM⟩)
  have c:=za hw;clear hw
  go_enter Tryz.func146,Tryz.ntmps146
  go_wp2_with (first
   |(go_at_call 222;refine (zdL hs).mono ?_;rw [c.out,if_pos rfl,i.out];rintro e w' ⟨rfl,rfl⟩)
   |(go_at_call 142;refine (zW _ _).mono ?_;rw [d.out];rintro e w' ⟨rfl,rfl⟩))
  go_ret;exact⟨zj (by rw [g.out]),rfl⟩
def bnum (bs:List UInt8):List Int:=bs.map fun b=>(b.toNat:Int)
def bcl (bs:List UInt8):List Value:=(bnum bs).map (Value.int .u8)
theorem bcl_length (bs:List UInt8):(bcl bs).length=bs.length:=by simp [bcl,bnum]
def zfn (a:Nat) (bs:List UInt8):List UInt8:=bs.filter fun b=>hasB a (ltr b.toNat)
def zbg (s:ByteArray) (a:Nat):ByteArray:=strOfNums (bnum (zfn a s.data.toList))
theorem zhV (hk:k<s.size):zfn a (s.data.toList.take (k+1))=zfn a (s.data.toList.take k)++if hasB a (ltr s[k].toNat)=true then [s[k]] else []:=by
 rw [dO,zci s k hk,eD];unfold zfn;rw [List.filter_append]
 congr 1
 cases h:hasB a (ltr s[k].toNat)<;>simp [h]
theorem zgR (s:ByteArray) (a k:Nat):(zfn a (s.data.toList.take k)).length<=s.size:=by
 refine Nat.le_trans (List.length_filter_le _ _) ?_;rw [List.length_take];have:s.data.toList.length=s.size:=sM;omega
theorem conv_own {bs:List UInt8}(h:W.ownsRow base 5 1 (.slice A n cap) n (bcl bs)) :
  (convert 22 9 (.slice A n cap)).run Tryz.prog W=.ok (.string (strOfNums (bnum bs))) W:=by
 have d:bs.length=n:=by have:=zeM h;rw [bcl_length] at this;omega
 rcases h.2 with ⟨a,j⟩|⟨g,c,f,a,_⟩
 ·injection a with a h3 h4
  subst a;subst h3;subst h4;obtain rfl:bs=[]:=dU d;exact run_convert_bytes_nil (P:=Tryz.prog) W 22 5 u8_row u8_und _ _ _ ziZ
 ·injection a with a
  subst a;refine run_convert_bytes_arg (P:=Tryz.prog) W 22 5 u8_row u8_und g 0 n cap (bnum bs) (by simp [bnum,d]) (fun i hi=>?_) _ ziZ;rw [dW,h.cellAt i oM];unfold bcl;rw [dS];have b:i<(bnum bs).length:=by simp [bnum];omega
  rw [dD b];simp [List.getD,dD b]
theorem own_u8_lit (w:World):(w.alloc (.cells #[] 5)).ownsRow w.heap.size 5 1 (.slice (some w.heap.size) 0 0) 0 (bcl []):=World.ownsRow_lit w #[] 0 (dE _) lM rfl
theorem yN06a1 {P:Prop}(h:P:=by
 obtain rfl:k=s.size:=oM;have zjh:=za (show strOfNums (bnum bs)=zbg s a by rw [hbs.out,List.take_of_length_le sM];rfl);obtain⟨A5,c5,rfl⟩:=zg zje;have hcv:=conv_own zje;clear zje;go_wp2_with (simp only [hcv])
 go_ret;exact⟨by rw [zjh.out];rfl,hx⟩
 ):P:=h
theorem yN06a2 {P:Prop}(h:P:=by
 go_roundw
 case rel=>exact⟨k+1,bs++[s[k]],oM,gM,by rw [List.length_append];simpa [bcl,bnum] using zjq,hst2,by rw [List.length_append];exact hl3,hext5⟩
 case measure=>simp [intOf];omega
 ):P:=h
theorem zcf (hw:zaW s=true)(ha:a<=63) :
  Calls Tryz.prog 60 #[s,a] w fun e w'=>e=.returned (.string (zbg s a))∧Ext w w':=by
 have m:=za (show (decide ((0:Int)<=a∧(a:Int)<=63))=true by simp;omega);have x:=zaV hw;have q:=za (fun k p=>zaU hw (k:=k) p);have r:=za hw;clear hw
 go_enter Tryz.func60,Tryz.ntmps60
 go_upto_region 3 with (first
  |(go_at_call 141;refine (zbd s _ oM).mono ?_;rw [r.out];rintro e w' ⟨rfl,rfl⟩)
  |(go_at_call 142;refine (zW _ _).mono ?_;rw [m.out];rintro e w' ⟨rfl,rfl⟩))
 go_upto_region 4 with fail
 have c:=own_u8_lit w;have j:=(dB w).alloc (.cells #[] 5);generalize hA0:(some ⟨w.heap.size,0,none⟩:Option Addr)=y at *;clear hA0;generalize w.alloc _=z at *;go_wp2_with fail
 go_loopw [5,6] (fun v i wr=>∃ (k:Nat) (bs:List UInt8),k<=s.size∧i=.int .i64 k∧wr.ownsRow w.heap.size 5 1 v bs.length (bcl bs)∧Hid (bs=zfn a (s.data.toList.take k))∧bs.length<=50000∧Ext w wr) (fun _ i _=>s.size - (intOf i).toNat)
 case atStart=>exact⟨0,[],dG _,rfl,c,rfl,sM,j⟩
 case round =>
  clear c j;obtain⟨k,bs,p,rfl,zje,hbs,n,hx⟩:=hrel
  by_cases hlt:k<s.size
  ·have t:=q.out k hlt;obtain⟨l,g⟩:∃ l:Nat,Hid ((s[k].toNat:Int) - 97=l):=⟨s[k].toNat - 97,by unfold Hid;omega⟩;have f:=za (show hasB a (ltr s[k].toNat)=a.testBit l by
    unfold hasB ltr;have:=g.out;rw [if_neg oM,this]
    simp)
   have h:=za (zhV (a:=a) hlt);have u:=zgR s a (k+1);have d:Sm a:=tM;have o:=za (show s.data.toList[k]?=some s[k] from zci s k hlt);cases hb:a.testBit l
   ·have b:=za hb;have hst2:=za (show bs=zfn a (s.data.toList.take (k+1)) by rw [h.out,f.out,b.out,hbs.out];simp);clear hb;go_wp2_with (first
     |(go_at_call 144;refine (zbj s k hlt _).mono ?_;rw [g.out];rintro e w' ⟨rfl,rfl⟩)
     |(go_at_call 143;refine (zau a l d _ (oH g.out)).mono ?_;rw [b.out];rintro e w' ⟨rfl,rfl⟩))
    go_roundw
    case rel=>exact⟨k+1,bs,oM,gM,zje,hst2,n,hx⟩
    case measure=>simp [intOf];omega
   ·have b:=za hb;have hst2:=za (show bs++[s[k]]=zfn a (s.data.toList.take (k+1)) by rw [h.out,f.out,b.out,hbs.out];simp);have hl3:(bs++[s[k]]).length<=50000:=by rw [hst2.out];omega
    rw [dN,dZ] at hl3;clear hb;go_wp2_with (first
     |(go_at_call 144;refine (zbj s k hlt _).mono ?_;rw [g.out];rintro e w' ⟨rfl,rfl⟩)
     |(go_at_call 143;refine (zau a l d _ (oH g.out)).mono ?_;rw [b.out];rintro e w' ⟨rfl,rfl⟩)
     |(at_builtin;refine zU w wr rfl _ _ _ rfl 5 _ 1 1 Tryz.underlying22 info_u8 rfl dM u5 _ _ _ _ rfl rfl hx zje rfl (ziq _) lM oM ?_;intro v' w5 hext5 zjq hg5 hat5))
    exact yN06a2
  ·exact yN06a1
theorem zfl (hw:zaW s=true)(ha:a<=63) :
  Calls Tryz.prog 53 #[s,a] w fun e w'=>e=.returned (.string (zbg s a))∧Ext w w':=by
 have m:=zaV hw;have h:=za (fun k g=>zaU hw (k:=k) g);clear hw;have c:Sm a:=tM
 go_enter Tryz.func53,Tryz.ntmps53
 go_wp2_with fail
 go_loopw [5,6,9] (fun v _ i wr=>∃ (k:Nat) (bs:List UInt8),k<=s.size∧i=.int .i64 k∧wr.ownsRow w.heap.size 5 1 v bs.length (bcl bs)∧Hid (bs=zfn a (s.data.toList.take k))∧bs.length<=50000∧Ext w wr) (fun _ _ i _=>s.size - (intOf i).toNat)
 case atStart=>exact⟨0,[],dG _,rfl,World.ownsRow_nil _ _ _ _,rfl,sM,dB _⟩
 case round =>
  obtain⟨k,bs,g,rfl,zje,hbs,f,hx⟩:=hrel
  by_cases hlt:k<s.size
  ·have j:=h.out k hlt;have d:=za (zhV (a:=a) hlt);have l:=zgR s a (k+1);cases hb:hasB a (ltr s[k].toNat)
   ·have b:=za hb;have hst2:=za (show bs=zfn a (s.data.toList.take (k+1)) by rw [d.out,b.out,hbs.out];simp);clear hb;go_wp2_with (first
     |(go_at_call 121;refine (zbp s k hlt _).mono ?_;rintro e w' ⟨rfl,rfl⟩)
     |(go_at_call 127;refine (zbz a _ c _).mono ?_;rw [b.out];rintro e w' ⟨rfl,rfl⟩))
    go_roundw
    case rel=>exact⟨k+1,bs,oM,gM,zje,hst2,f,hx⟩
    case measure=>simp [intOf];omega
   ·have b:=za hb;have hst2:=za (show bs++[s[k]]=zfn a (s.data.toList.take (k+1)) by rw [d.out,b.out,hbs.out];simp);have hl3:(bs++[s[k]]).length<=50000:=by rw [hst2.out];omega
    rw [dN,dZ] at hl3;clear hb;go_wp2_with (first
     |(go_at_call 121;refine (zbp s k hlt _).mono ?_;rintro e w' ⟨rfl,rfl⟩)
     |(go_at_call 127;refine (zbz a _ c _).mono ?_;rw [b.out];rintro e w' ⟨rfl,rfl⟩)
     |(at_builtin;refine zU w wr rfl _ _ _ rfl 5 _ 1 1 Tryz.underlying22 info_u8 rfl dM u5 _ _ _ _ rfl rfl hx zje rfl (ziq _) lM oM ?_;intro v' w5 hext5 zjq hg5 hat5))
    exact yN06a2
  ·exact yN06a1
theorem areParts_1 {s:Sys} (h:zO w lo hi A n s) :
  Calls Tryz.prog 170 #[.agg #[s.al,s.st,.slice A n c]] w fun e w'=>e=.returned (.bool (!zk s))∧Ext w w':=by
 go_enter Tryz.func170,Tryz.ntmps170
 go_wp2_with (go_at_call 65;refine (zab (h.ext ?_)).mono ?_;exact (dB _).alloc _;rintro e w' ⟨rfl,hx⟩)
 go_ret;exact⟨rfl,((dB _).alloc _).trans hx⟩
theorem zgQ (h:zeB w lo hi A n ss) :
  Calls Tryz.prog 254 #[.slice A n c,.func (.func 170) #[] #[]] w fun e w'=>∃ r:Int,e=.returned (.int .i64 r)∧decide (0<=r)=ss.any (fun s=>!zk s) ∧ -1<=r∧Ext w w':=by
 have z:=h.len;have m:=za h.1
 go_enter Tryz.func254,Tryz.ntmps254
 go_wp2
 go_loopw [8] (fun i wr=>∃ k:Nat,k<=n∧i=.int .i64 k∧Hid ((ss.take k).any (fun s=>!zk s)=false)∧Ext w wr) (fun i _=>n - (intOf i).toNat)
 case atStart=>exact⟨0,dG _,rfl,rfl,dB _⟩
 case round =>
  obtain⟨k,y,rfl,f,a⟩:=hrel
  by_cases hlt:k<n
  ·obtain⟨b,o,s,B,q,d,rfl,t,p,l,u,v,x,j⟩:=(h.ext a).sys hlt;cases hb:zk s
   all_goals
    have g:=za hb;clear hb;go_wp2_with (go_at_call 170;refine (areParts_1 j).mono ?_;rw [g.out];rintro e w' ⟨rfl,hx⟩)
   ·go_ret;exact⟨k,rfl,by rw [List.any_eq_true.2 ⟨s,dC l.out,by rw [g.out];rfl⟩];simp,oM,a.trans hx⟩
   ·go_roundw
    case rel=>exact⟨k+1,oM,gM,by unfold Hid;rw [dO,l.out,List.any_append,f.out];simp [g.out],a.trans hx⟩
    case measure=>simp [intOf];omega
  ·obtain rfl:k=n:=oM;go_wp2;go_ret;have:=f.out;rw [m.out,eI] at this;exact⟨-1,rfl,by rw [this];decide,oM,a⟩
theorem zfc (h:zeB w lo hi A n ss) :
  Calls Tryz.prog 169 #[.slice A n c,.func (.func 170) #[] #[]] w fun e w'=>e=.returned (.bool (ss.any (fun s=>!zk s)))∧Ext w w':=by
 go_enter Tryz.func169,Tryz.ntmps169
 cases hb:ss.any (fun s=>!zk s)
 all_goals
  have b:=za hb;clear hb;go_wp2_with (go_at_call 254;refine (zgQ h).mono ?_;rw [b.out];rintro e w' ⟨r,rfl,d,f,hx⟩)
  go_ret;exact⟨zj (by have a:=d;simp at a;simp<;>omega),hx⟩
def zC (ss:List Sys):Bool:=decide (1<=ss.length)&&(decide (ss.length<=3)&&ss.all zk)
theorem zaD (h:zeB w lo hi A n ss) :
  Calls Tryz.prog 78 #[.slice A n c] w fun e w'=>e=.returned (.bool (zC ss))∧Ext w w':=by
 have f:=h.len;have a:=za h.1;have b:ss.any (fun s=>!zk s)=!ss.all zk:=by rw [gI];simp
 have d:=za b;clear b
 by_cases h1:1<=n
 ·by_cases h3:n<=3
  ·go_enter Tryz.func78,Tryz.ntmps78
   go_wp2_with (go_at_call 169;refine (zfc h).mono ?_;rw [d.out];rintro e w' ⟨rfl,hx⟩)
   go_ret;exact⟨zj (by have:=a.out;unfold zC;rw [decide_eq_true oM,decide_eq_true oM];simp),hx⟩
  ·go_enter Tryz.func78,Tryz.ntmps78
   go_wp2;go_ret;exact⟨zj (by have:=a.out;unfold zC;rw [decide_eq_false (by omega:¬ ss.length<=3)];simp),dB _⟩
 ·go_enter Tryz.func78,Tryz.ntmps78
  go_wp2;go_ret;exact⟨zj (by have:=a.out;unfold zC;rw [decide_eq_false (by omega:¬ 1<=ss.length)];simp),dB _⟩
theorem zF (lo hi:Nat) (A:Option Addr) (n c:Nat) (A':Option Addr) (n' c':Nat) (a:Aut) (w:World)(h:zH w lo hi A n A' n' a) :
  Calls Tryz.prog 25 #[.agg #[a.al,.slice A n c,.slice A' n' c']] w fun e w'=>e=.returned (.bool (zi a))∧Ext w w':=by
 have B:=h.n1;have G:=h.n2;have o:=za (show zi a=(decide (0<=a.al∧a.al<=63)&&(decide (1<=n∧n<=12)&&(decide (n'=n)&&a.next.all (ziI (letters a.al.toNat 6).length n)))) by unfold zi;rw [← B,← G]);have R:=h.1.len;have S:=h.2.2.len;clear B G
 by_cases hal:0<=a.al∧a.al<=63
 ·have s:=za (show decide (0<=a.al∧a.al<=63)=true by simp;omega)
  by_cases hn:1<=n∧n<=12
  ·have M:decide ((n:Int)<1)=false:=by simp;omega
   have O:decide (12<(n:Int))=false:=by simp;omega
   by_cases hn':n'=n
   ·subst hn';obtain⟨al,d⟩:∃ al:Nat,Hid (a.al=al):=⟨a.al.toNat,by unfold Hid;omega⟩;have F:Sm al:=by have:=d.out;unfold Sm;omega
    have C:=zy al 6;rw [d.out];rw [d.out] at s;rw [d.out,eN] at o;clear hal;have H:=fun W (hW:Ext w W)=>h.1.ext hW;have J:=za H;clear H
    go_enter Tryz.func25,Tryz.ntmps25
    go_wp2_with (first
     |(go_at_call 82;refine (zas _ _).mono ?_;rw [s.out];rintro e w' ⟨rfl,rfl⟩)
     |(go_at_call 67;refine (zbv _ F _).mono ?_;rintro e V ⟨Y,c2,rfl,X,b⟩;have p:=zcz b))
    go_loopw [40] (fun i wr=>∃ k:Nat,k<=n'∧i=.int .i64 k∧Hid ((a.next.take k).all (ziI (letters al 6).length n')=true)∧Ext V wr)
     (fun i _=>n' - (intOf i).toNat)
    case atStart=>exact⟨0,dG _,rfl,rfl,dB _⟩
    case round =>
     obtain⟨k,hk,rfl,f,u⟩:=hrel;have I:∀ W,Ext wr W->∀ j,W.cell? ⟨w.heap.size,j,none⟩=#[Value.int .i64 al,Value.slice A n' c,Value.slice A' n' c'][j]?:=fun W hW=>zcz ((b.trans u).trans hW);have U:=dB wr;clear p;have zjh:Ext w wr:=(((dB _).alloc _).trans b).trans u
     by_cases hlt:k<n'
     ·obtain⟨ad,Z,ck,l,rfl,T,Q,z,r,v⟩:=(J.out wr zjh).row hlt
      by_cases hlk:l.length=(letters al 6).length
      ·obtain⟨m,D⟩:∃ m,Hid ((letters al 6).length=m):=⟨_,rfl⟩;have t:Hid (l.length=m):=by have:=D.out;unfold Hid;omega
       rw [D.out] at C ⊢;rw [D.out] at f o;rw [t.out] at r v;clear hlk;go_wp2_with fail
       go_loop [50] (fun i=>∃ j:Nat,j<=m∧i=.int .i64 j∧Hid ((l.take j).all (fun q=>decide (0<=q∧q<n'))=true)) (fun i=>m - (intOf i).toNat)
       case atStart=>exact⟨0,dG _,rfl,rfl⟩
       case round =>
        obtain⟨j,hj,rfl,g⟩:=hrel
        by_cases hltj:j<m
        ·obtain⟨L,x,rfl,_,_,hx,y⟩:=v.int hltj
         by_cases h0:x<0
         ·go_wp2;go_ret;exact⟨zj (by rw [o.out,zaH z.out (by rw [ziI,zaH hx.out (by simp;omega),iO])];simp),zjh⟩
         ·by_cases B:(n':Int)<=x
          ·go_wp2;go_ret;exact⟨zj (by rw [o.out,zaH z.out (by rw [ziI,zaH hx.out (by simp;omega),iO])];simp),zjh⟩
          ·go_wp2
           go_round
           case rel=>exact⟨j+1,oM,gM,zch hx.out g.out (by simp;omega)⟩
           case measure=>simp [intOf];omega
        ·obtain rfl:j=m:=oM;go_wp2;go_roundw
         case rel=>exact⟨k+1,oM,gM,zch z.out f.out (by rw [ziI,zdF (oH t.out) g.out,t.out];simp),u⟩
         case measure=>simp [intOf];omega
      ·have E:((l.length:Int) != ((letters al 6).length:Int))=true:=by simp;omega
       go_wp2;go_ret;exact⟨zj (by rw [o.out,zaH z.out (by simp [ziI,hlk])];simp),zjh⟩
     ·obtain rfl:k=n':=oM;go_wp2;go_ret;exact⟨zj (by rw [o.out,zdF (oH h.n1) f.out,s.out];simp;omega),zjh⟩
   ·have E:((n':Int) != (n:Int))=true:=by simp;omega
    go_enter Tryz.func25,Tryz.ntmps25
    go_wp2_with (go_at_call 82;refine (zas _ _).mono ?_;rw [s.out];rintro e w' ⟨rfl,rfl⟩)
    go_ret;exact⟨zj (by rw [o.out];simp [hn']),(dB _).alloc _⟩
  ·go_enter Tryz.func25,Tryz.ntmps25
   go_wp2_with (go_at_call 82;refine (zas _ _).mono ?_;rw [s.out];rintro e w' ⟨rfl,rfl⟩)
   all_goals go_ret
   all_goals exact⟨zj (by rw [o.out];simp [hn]),(dB _).alloc _⟩
 ·go_enter Tryz.func25,Tryz.ntmps25
  have s:decide (0<=a.al∧a.al<=63)=false:=by simp;omega
  go_wp2_with (go_at_call 82;refine (zas _ _).mono ?_;rw [s];rintro e w' ⟨rfl,rfl⟩)
  go_ret;exact⟨zj (by rw [o.out];simp;omega),(dB _).alloc _⟩
def zeE (a:Aut):Bool:=decide (a.al=0)&&(decide (a.next.length=0)&&decide (a.acc.length=0))
theorem spec_l13None (lo hi:Nat) (A:Option Addr) (n c:Nat) (A':Option Addr) (n' c':Nat) (a:Aut) (w:World)(h:zH w lo hi A n A' n' a) :
  Calls Tryz.prog 186 #[.agg #[a.al,.slice A n c,.slice A' n' c']] w fun e w'=>e=.returned (.bool (zeE a))∧Ext w w':=by
 have b:=za (show zeE a=(decide (a.al=0)&&(decide (n=0)&&decide (n'=0))) by unfold zeE;rw [← h.n1,← h.n2]);have j:=h.1.len;have k:=h.2.2.len;clear h
 by_cases h0:a.al=0
 ·have i:((a.al:Int)==0)=true:=by simp [h0]
  have f:=za h0;clear h0
  by_cases h1:n=0
  ·have d:((n:Int)==0)=true:=by simp [h1]
   have g:=za h1;clear h1
   go_enter Tryz.func186,Tryz.ntmps186
   go_wp2;go_ret;exact⟨zj (by rw [b.out,f.out,g.out];by_cases h2:n'=0<;>simp [h2]),(dB _).alloc _⟩
  ·have d:((n:Int)==0)=false:=by simp [h1]
   go_enter Tryz.func186,Tryz.ntmps186
   go_wp2;go_ret;exact⟨zj (by rw [b.out];simp [h1]),(dB _).alloc _⟩
 ·have i:((a.al:Int)==0)=false:=by simp [h0]
  go_enter Tryz.func186,Tryz.ntmps186
  go_wp2;go_ret;exact⟨zj (by rw [b.out];simp [h0]),(dB _).alloc _⟩
def zK (ss:List Sys):Nat:=ss.foldl (fun a s=>a|||s.al.toNat) 0
theorem zcg {s:Sys}(h:ss[k]?=some s):zK (ss.take (k+1))=zK (ss.take k)|||s.al.toNat:=by
 rw [dO,h];simp [zK]
theorem zT {s:Sys}(h:zk s=true):0<=s.al∧s.al<=63:=by
 simp only [zk,dI,decide_eq_true_eq] at h;exact h.1
def zaJ (ss:List Sys):Int:=if zC ss then (zK ss:Int) else -1
theorem zad (h:zeB w lo hi A n ss) :
  Calls Tryz.prog 206 #[.slice A n c] w fun e w'=>e=.returned (.int .i64 (zaJ ss))∧Ext w w':=by
 have R:=h.len;have r:=za h.1
 by_cases p:n<1
 ·go_enter Tryz.func206,Tryz.ntmps206
  go_wp2;go_ret;exact⟨zD (by have:=r.out;unfold zaJ zC;rw [decide_eq_false oM];simp),dB _⟩
 by_cases h3:n>3
 ·go_enter Tryz.func206,Tryz.ntmps206
  go_wp2;go_ret;exact⟨zD (by have:=r.out;unfold zaJ zC;rw [decide_eq_false (by omega:¬ ss.length<=3)];simp),dB _⟩
 go_enter Tryz.func206,Tryz.ntmps206
 go_wp2
 go_loopw [3,4] (fun v i wr=>∃ k:Nat,k<=n∧i=.int .i64 k∧∃ u:Nat,v=.int .i64 u∧u<=63∧Hid (u=zK (ss.take k))∧Hid ((ss.take k).all zk=true)∧Ext w wr) (fun _ i _=>n - (intOf i).toNat)
 case atStart=>exact⟨0,dG _,rfl,0,rfl,oM,rfl,rfl,dB _⟩
 case round =>
  obtain⟨k,Q,rfl,u,rfl,S,m,g,f⟩:=hrel
  by_cases hlt:k<n
  ·obtain⟨b,o,s,B,q,d,rfl,L,J,t,F,M,O,l⟩:=(h.ext f).sys hlt;cases hb:zk s
   ·have j:=za hb;clear hb;go_wp2_with (go_at_call 185;refine (zak l).mono ?_;rw [j.out];rintro e w' ⟨rfl,hx⟩)
    go_ret;exact⟨zD (by unfold zaJ;rw [if_neg];unfold zC;simp;intro _ _;exact⟨s,dC t.out,j.out⟩),f.trans hx⟩
   ·obtain⟨H,I⟩:=zT hb;have j:=za hb;clear hb;have E:=za (zcg t.out);have D:=za (zbE (a:=u) (b:=s.al.toNat) tM tM);have C:=za (show ((s.al.toNat:Nat):Int)=s.al by omega);go_wp2_with (go_at_call 185;refine (zak l).mono ?_;rw [j.out];rintro e w' ⟨rfl,hx⟩;have G:=hx.aa F)
    go_roundw
    case rel=>exact⟨k+1,oM,gM,u|||s.al.toNat,by have:=D.out;rw [C.out] at this;rw [← this],by have:=eO (n:=6) (x:=u) (y:=s.al.toNat) oM oM;omega,by unfold Hid;rw [E.out,m.out],by unfold Hid;rw [dO,t.out,List.all_append,g.out];simp [j.out],f.trans hx⟩
    case measure=>simp [intOf];omega
  ·obtain rfl:k=n:=oM;go_wp2;go_ret;exact⟨zD (by have:=r.out;have p:=m.out;have z:=g.out;rw [this,eI] at p z;unfold zaJ zC;rw [decide_eq_true oM,decide_eq_true oM,z,p];rfl),f⟩
theorem zbe (h:zeB w lo hi A n ss) :
  Calls Tryz.prog 86 #[.slice A n c] w fun e w'=>e=.returned (.int .i64 (zaJ ss))∧Ext w w':=by
 have O:=h.len;have G:=za h.1;have m:=za (fun W (hW:Ext w W)=>h.ext hW);clear h;cases hp:zC ss
 ·have p:=za hp;have z:=za (show zaJ ss = -1 by unfold zaJ;rw [hp];rfl);clear hp
  go_enter Tryz.func86,Tryz.ntmps86
  go_wp2_with (go_at_call 78;refine (zaD (m.out _ (dB _))).mono ?_;rw [p.out];rintro e I ⟨rfl,hx⟩)
  go_ret;exact⟨zD (by rw [z.out]),hx⟩
 ·have p:=za hp;have z:=za (show zaJ ss=(zK ss:Int) by unfold zaJ;rw [hp];rfl);have H:=za (show ∀ s∈ss,zk s=true by
   unfold zC at hp;simp only [dI,eH] at hp;exact hp.2.2)
  clear hp
  go_enter Tryz.func86,Tryz.ntmps86
  go_wp2_with (go_at_call 78;refine (zaD (m.out _ (dB _))).mono ?_;rw [p.out];rintro e I ⟨rfl,hx⟩)
  go_loopw [3,5,11] (fun v _ i wr=>∃ k u:Nat,k<=n∧i=.int .i64 k∧v=.int .i64 u∧u<=63∧Hid (u=zK (ss.take k))∧Ext w wr) (fun _ _ i _=>n - (intOf i).toNat)
  case atStart=>exact⟨0,0,dG _,rfl,rfl,oM,rfl,hx⟩
  case round =>
   clear hx;obtain⟨k,u,M,rfl,rfl,R,g,hx⟩:=hrel
   by_cases hlt:k<n
   ·obtain⟨b,o,s,B,q,d,rfl,_,_,D,F,J,L,_⟩:=(m.out wr hx).sys hlt;obtain⟨r,t⟩:=zT (H.out s (dC D.out));obtain⟨f,j⟩:∃ f:Nat,Hid (s.al=f):=⟨s.al.toNat,by unfold Hid;omega⟩;rw [j.out] at F r t;have E:=za (show zK (ss.take (k+1))=u|||f by rw [zcg D.out,j.out,eN,g.out]);have C:=za (zbE (a:=u) (b:=f) tM tM);have l:u|||f<=63:=by have:=eO (n:=6) (x:=u) (y:=f) oM oM;omega
    have Q:=C.out;clear g;go_wp2_with fail
    go_roundw
    case rel=>exact⟨k+1,u|||f,oM,gM,by first|rfl|rw [C.out],l,E.out.symm,by first|exact hx.alloc _|exact (hx.alloc _).drew⟩
    case measure=>simp [intOf];omega
   ·obtain rfl:n=k:=oM;have zjh:=za (show zaJ ss=(u:Int) by rw [z.out,g.out,dK (oH G.out)]);go_wp2;go_ret;exact⟨zD (by rw [zjh.out]),hx⟩
def zgi (es:List Edg) (x:Nat) (ls:List Nat):Nat:=ls.foldl (fun m (l:Nat)=>zbr es m (l:Int)) x
theorem zft (es:List Edg) (x:Nat) (ls:List Nat) (l:Nat):zgi es x (ls++[l])=zbr es (zgi es x ls) (l:Int):=by simp [zgi]
theorem runB_zero (es:List Edg) (ls:List Nat):zgi es 0 ls=0:=by
 induction ls with
 |nil=>rfl
 |cons l r ih=>rw [zgi,iW,zii];exact ih
theorem runB_end (h:zgi es x (ls.take k)=0):zgi es x ls=0:=by
 have e:ls=ls.take k++ls.drop k:=(List.take_append_drop k ls).symm;rw [e,zgi,List.foldl_append];show zgi es (zgi es x (ls.take k)) (ls.drop k)=0;rw [h,runB_zero]
section
variable {lo hi n c:Nat} {A:Option Addr} {s:Sys} {t:ByteArray} {w:World}
theorem runB_lt16 (hf:Few p es)(hp:p<=16) (ls:List Nat):zgi es 1 ls<65536:=by
 rcases zaf ls with rfl|⟨u,l,rfl⟩
 ·simp [zgi]
 ·rw [zft];refine Nat.lt_of_lt_of_le (zfA hf _ _) ?_;rw [show (65536:Nat)=2 ^ 16 from rfl];exact dV oM hp
theorem spec_l2Run (h:zO w lo hi A n s)(hv:zk s=true)(ht:zaW t=true) :
  Calls Tryz.prog 301 #[.agg #[s.al,s.st,.slice A n c],(1:Int),t] w fun e w'=>e=.returned (.int .i64 (zgi s.edges 1 (wl t):Nat))∧Ext w w':=by
 obtain⟨p,M,O,m,u⟩:=zbl hv;have G:=za (fun W (hW:Ext w W)=>h.ext hW);have Q:=zaV ht;have H:=za (fun k C=>zaU ht (k:=k) C);have I:=za u;have q:=za (fun ls=>runB_lt16 u m ls);clear h hv ht u M
 go_enter Tryz.func301,Tryz.ntmps301
 go_upto_region 1 with fail
 generalize U0:w.alloc _=E at *;obtain⟨b,J⟩:=Ext.x1_ U0;clear U0;go_wp2_with fail
 go_loopw [1,7] (fun v i wr=>∃ k x:Nat,i=.int .i64 k∧k<=t.size∧v=.int .i64 x∧x<65536∧Hid (x=zgi s.edges 1 ((wl t).take k))∧Ext E wr) (fun _ i _=>t.size - (intOf i).toNat)
 case atStart=>exact⟨0,1,rfl,dG _,rfl,oM,rfl,dB _⟩
 case round =>
  obtain⟨k,x,rfl,C,rfl,hx,f,a⟩:=hrel
  by_cases hlt:k<t.size
  ·by_cases hx0:x=0
   ·subst hx0;have zjh:=za (show zgi s.edges 1 (wl t)=0 from runB_end f.out.symm);go_wp2;go_ret;exact⟨zD (by rw [zjh.out]),b.trans a⟩
   ·have L:((x:Int) != 0)=true:=by simp;try omega
    have r:=H.out k hlt;obtain⟨l,D⟩:∃ l:Nat,Hid ((t[k].toNat:Int) - 97=l):=⟨t[k].toNat - 97,by unfold Hid;omega⟩;have o:=za (show zbr s.edges x (l:Int)=zgi s.edges 1 ((wl t).take (k+1)) by
     rw [dO,zex hlt,eD,zft,← f.out]
     congr 1
     have:=D.out;omega)
    have g:=q.out ((wl t).take (k+1));rw [← o.out] at g;have F:=za (fun W (hW:Ext E W)=>zeV (c:=c) (set:=x) (l:=(l:Int)) (G.out W (b.trans hW)) I.out m tM);generalize zbr s.edges x (l:Int)=y at *;have R:∀ W,Ext wr W->∀ j,W.cell? ⟨w.heap.size,j,none⟩=#[Value.int .i64 s.al,.int .i64 s.st,.slice A n c][j]?:=fun W hW=>(J.ext (a.trans hW)).cell;have d:=dB wr;clear r;go_upto_region 4 with fail
    refine uR (fun X=>Ext wr X) [5] (zw.of [0,1,2,3,4,5,6]) ?_;refine uQ ?_;refine zd fun K hK=>?_;go_simp;refine (zbj t k hlt _).mono ?_;rw [D.out];rintro e w' ⟨rfl,rfl⟩;refine hK.out _ _ d.drew ?_;refine pT ?_;refine zb fun K hK=>?_;go_simp;refine (F.out _ (a.trans d.drew)).mono (mQ fun S z=>?_);refine hK.out _ _ ?_;refine pT ?_;refine uQ ?_;refine ze ?_;have B:=a.trans (d.drew.trans z);go_wp2_with fail
    go_roundw
    case rel=>exact⟨k+1,y,gM,oM,rfl,g,o,B⟩
    case measure=>simp [intOf];omega
  ·obtain rfl:k=t.size:=oM;have zjh:=za (show x=zgi s.edges 1 (wl t) by rw [f.out,dK (by rw [zey];exact dE _)]);go_wp2;go_ret;exact⟨zD (by rw [zjh.out]),b.trans a⟩
def zee (s:Sys) (t:ByteArray):Nat:=if (zk s&&inB t s.al.toNat)=true then zgi s.edges 1 (wl t) else 0
theorem zgk (h:zO w lo hi A n s)(ht:t.size<=9223372036854775807) :
  Calls Tryz.prog 295 #[.agg #[s.al,s.st,.slice A n c],t] w fun e w'=>e=.returned (.int .i64 (zee s t:Nat))∧Ext w w':=by
 have x:=za (fun W (hW:Ext w W)=>h.ext hW);have l:=za (fun W (hW:Ext w W)=>zak (c:=c) (h.ext hW));clear h;have b:Ext w (w.alloc (.cells #[s.al,s.st,.slice A n c] 38)):=(dB w).alloc _;have g:=dX w 38 #[s.al,s.st,.slice A n c];cases hv:zk s
 ·have j:=za hv;have i:=za (show zee s t=0 by unfold zee;rw [hv];rfl);clear hv
  go_enter Tryz.func295,Tryz.ntmps295
  go_upto_region 1 with fail
  generalize w.alloc _=u at *;have o:=g.cell;go_wp2_with (go_at_call 185;refine (l.out _ b).mono ?_;rw [j.out];rintro e v ⟨rfl,a⟩)
  go_ret;exact⟨zD (by rw [i.out];rfl),b.trans a⟩
 ·have y:=zT hv;obtain⟨al,d⟩:∃ al:Nat,Hid (s.al=al):=⟨s.al.toNat,by unfold Hid;omega⟩;have f:al<=63:=oH d.out;have i:=za (show zee s t=if inB t al=true then zgi s.edges 1 (wl t) else 0 by unfold zee;rw [hv,d.out];simp);have j:=za hv;cases hi:inB t al
  ·have m:=za hi;rw [hi] at i;clear hv hi
   go_enter Tryz.func295,Tryz.ntmps295
   go_upto_region 1 with fail
   generalize w.alloc _=u at *;have o:=g.cell;go_wp2_with (first
    |(go_at_call 185;refine (l.out _ b).mono ?_;rw [j.out];rintro e v ⟨rfl,a⟩;have r:=((g.ext a).cell 0).trans (show #[Value.int .i64 s.al,.int .i64 s.st,.slice A n c][0]?=some (Value.int .i64 (al:Nat)) by rw [d.out];rfl))
    |(go_at_call 146;refine (zah ht f).mono ?_;rw [m.out];rintro e z ⟨rfl,rfl⟩))
   go_ret;exact⟨zD (by rw [i.out];rfl),b.trans a⟩
  ·have m:=za hi;have p:=za (zaQ hi);rw [hi,if_pos rfl] at i;clear hv hi
   go_enter Tryz.func295,Tryz.ntmps295
   go_upto_region 1 with fail
   generalize w.alloc _=u at *;have o:=g.cell;go_upto_region 3 with (first
    |(go_at_call 185;refine (l.out _ b).mono ?_;rw [j.out];rintro e v ⟨rfl,a⟩;have r:=((g.ext a).cell 0).trans (show #[Value.int .i64 s.al,.int .i64 s.st,.slice A n c][0]?=some (Value.int .i64 (al:Nat)) by rw [d.out];rfl))
    |(go_at_call 146;refine (zah ht f).mono ?_;rw [m.out];rintro e z ⟨rfl,rfl⟩))
   have k:=b.trans a;have B:=(g.ext a).cell;clear r o;go_wp2_with (go_at_call 301;refine (spec_l2Run (x.out _ k) j.out p.out).mono (mQ fun C q=>?_))
   go_ret;exact⟨zD (by rw [i.out]),k.trans q⟩
theorem zgg (h:zO w lo hi A n s)(hT:Tab w)(ht:t.size<=9223372036854775807) :
  Calls Tryz.prog 177 #[.agg #[s.al,s.st,.slice A n c],t] w fun e w'=>e=.returned (.int .i64 (zee s t:Nat))∧Ext w w':=by
 have HS:=za (fun W (hW:Ext w W)=>h.ext hW);have HT:=za (fun W (hW:Ext w W)=>hT.ext hW);have F:=za (fun W (hW:Ext w W)=>zab (c:=c) (h.ext hW));clear h hT;have b:Ext w (w.alloc (.cells #[s.al,s.st,.slice A n c] 38)):=(dB w).alloc _;have r:=dX w 38 #[s.al,s.st,.slice A n c];cases hv:zk s
 ·have D:=za hv;have j:=za (show zee s t=0 by unfold zee;rw [hv];rfl);clear hv
  go_enter Tryz.func177,Tryz.ntmps177
  go_upto_region 1 with fail
  generalize w.alloc _=X at *;have H:=r.cell;go_wp2_with (go_at_call 65;refine (F.out _ b).mono ?_;rw [D.out];rintro e Y ⟨rfl,a⟩)
  go_ret;exact⟨zD (by rw [j.out];rfl),b.trans a⟩
 ·have ag:=zT hv;obtain⟨al,d⟩:∃ al:Nat,Hid (s.al=al):=⟨s.al.toNat,by unfold Hid;omega⟩;have g:al<=63:=oH d.out;have j:=za (show zee s t=if inB t al=true then zgi s.edges 1 (wl t) else 0 by unfold zee;rw [hv,d.out];simp);have D:=za hv;cases hi:inB t al
  ·have G:=za (show (decide (t.size<=50000)&&zdK t al)=false from hi);rw [hi] at j;clear hv hi
   go_enter Tryz.func177,Tryz.ntmps177
   go_upto_region 1 with fail
   generalize w.alloc _=X at *;have H:=r.cell;go_wp2_with (first
    |(go_at_call 65;refine (F.out _ b).mono ?_;rw [D.out];rintro e Y ⟨rfl,a⟩;have T:=((r.ext a).cell 0).trans (show #[Value.int .i64 s.al,.int .i64 s.st,.slice A n c][0]?=some (Value.int .i64 (al:Nat)) by rw [d.out];rfl))
    |(go_at_call 85;refine (zaS t al _ ht g).mono ?_;rw [G.out];rintro e w3 ⟨rfl,rfl⟩))
   go_ret;exact⟨zD (by rw [j.out];rfl),b.trans a⟩
  ·have G:=za (show (decide (t.size<=50000)&&zdK t al)=true from hi);have o:=zaQ hi;obtain⟨p,hp,aj,z,J⟩:=zbl hv;have ak:=zaV o;have Hb:=za (fun k U=>zaU o (k:=k) U);have S:=za J;have E:=za (fun ls=>runB_lt16 J z ls);rw [hi,if_pos rfl] at j;clear hv hi J hp o
   go_enter Tryz.func177,Tryz.ntmps177
   go_upto_region 1 with fail
   generalize w.alloc _=X at *;have H:=r.cell;go_upto_region 3 with (first
    |(go_at_call 65;refine (F.out _ b).mono ?_;rw [D.out];rintro e Y ⟨rfl,a⟩;have T:=((r.ext a).cell 0).trans (show #[Value.int .i64 s.al,.int .i64 s.st,.slice A n c][0]?=some (Value.int .i64 (al:Nat)) by rw [d.out];rfl))
    |(go_at_call 85;refine (zaS t al _ ht g).mono ?_;rw [G.out];rintro e w3 ⟨rfl,rfl⟩))
   have C:=b.trans a;have c3:=(r.ext a).cell;clear T H;go_wp2_with (go_at_call 154;refine (zdH (HS.out _ C) (fun e he=>by have:=S.out e he;omega)).mono ?_;rintro e R ⟨bm,rfl,_,V,O⟩)
   have m:=C.trans O;have HM:=za (fun W (hW:Ext R W)=>(V.ext hW).at_);clear V c3
   go_loopw [6,7] (fun v i wr=>∃ k x:Nat,i=.int .i64 k∧k<=t.size∧v=.int .i64 x∧x<65536∧Hid (x=zgi s.edges 1 ((wl t).take k))∧Ext R wr) (fun _ i _=>t.size - (intOf i).toNat)
   case atStart=>exact⟨0,1,rfl,dG _,rfl,oM,rfl,dB _⟩
   case round =>
    obtain⟨k,x,rfl,U,rfl,hx,q,f⟩:=hrel
    by_cases hlt:k<t.size
    ·by_cases hx0:x=0
     ·subst hx0;have zjh:=za (show zgi s.edges 1 (wl t)=0 from runB_end q.out.symm);go_wp2;go_ret;exact⟨zD (by rw [j.out,zjh.out]),m.trans f⟩
     ·have ah:((x:Int) != 0)=true:=by simp;try omega
      have I:=Hb.out k hlt;obtain⟨l,L⟩:∃ l:Nat,Hid (ltr t[k].toNat=l∧l<6∧t[k].toNat - 97=l):=⟨t[k].toNat - 97,by unfold Hid ltr;rw [if_neg oM];omega⟩;have M:=L.out.2.1;have B:=za (show zbr s.edges x (l:Int)=zgi s.edges 1 ((wl t).take (k+1)) by
       rw [dO,zex hlt,eD,zft,← q.out,L.out.2.2])
      have u:=E.out ((wl t).take (k+1));rw [← B.out] at u;have Z:=za (fun W (hW:Ext R W)=>impl_step (HM.out W hW) (HT.out W (m.trans hW)) (show x<2 ^ 16 from hx) M S.out z);generalize zbr s.edges x (l:Int)=y at *;clear I;go_wp2_with (first
       |(go_at_call 121;refine (zbp t k hlt _).mono ?_;rw [L.out.1];rintro e w' ⟨rfl,rfl⟩)
       |(go_at_call 191;refine (Z.out _ f).mono (mQ fun w6 Q=>?_)))
      go_roundw
      case rel=>exact⟨k+1,y,gM,oM,rfl,u,B,f.trans Q⟩
      case measure=>simp [intOf];omega
    ·obtain rfl:k=t.size:=oM;have zjh:=za (show x=zgi s.edges 1 (wl t) by rw [q.out,dK (by rw [zey];exact dE _)]);go_wp2;go_ret;exact⟨zD (by rw [j.out,zjh.out]),m.trans f⟩
theorem ziL (h:zO w lo hi A n s)(ht:t.size<=9223372036854775807) :
  Calls Tryz.prog 263 #[.agg #[s.al,s.st,.slice A n c],t] w fun e w'=>e=.returned (.bool (zee s t != 0))∧Ext w w':=by
 have b:=za (fun W (hW:Ext w W)=>zgk (c:=c) (h.ext hW) ht);have d:=za (show (((zee s t:Nat):Int) != 0)=(zee s t != 0) by rw [gI];simp;try omega);generalize zee s t=y at *
 go_enter Tryz.func263,Tryz.ntmps263
 go_wp2_with (go_at_call 295;refine (b.out _ ((dB _).alloc _)).mono (mQ fun f a=>?_))
 go_ret;exact⟨zj (by rw [d.out]),((dB _).alloc _).trans a⟩
theorem ziz (h:zO w lo hi A n s)(hT:Tab w)(ht:t.size<=9223372036854775807) :
  Calls Tryz.prog 87 #[.agg #[s.al,s.st,.slice A n c],t] w fun e w'=>e=.returned (.bool (zee s t != 0))∧Ext w w':=by
 have b:=za (fun W (hW:Ext w W)=>zgg (c:=c) (h.ext hW) (hT.ext hW) ht);have d:=za (show (((zee s t:Nat):Int) != 0)=(zee s t != 0) by rw [gI];simp;try omega);generalize zee s t=y at *
 go_enter Tryz.func87,Tryz.ntmps87
 go_wp2_with (go_at_call 177;refine (b.out _ ((dB _).alloc _)).mono (mQ fun f a=>?_))
 go_ret;exact⟨zj (by rw [d.out]),((dB _).alloc _).trans a⟩
end
theorem ziV {L:Int}    {q':Nat}  {a p:Aut}(h:zeY w PA pn AA an ss [a,p])(h':Lst zbs w lo hi SA st)(hsn:st.length=sn)(hq:st[pn]?=some q)(hqa:q<a.acc.length)(hq':st[pn+1]?=some q')(hqp:q'<p.acc.length) :
  Calls Tryz.prog 217 #[.agg #[.slice PA pn pc,.slice AA an ac,sv,L,(2:Int),G],.slice SA sn sc,mv] w fun e w'=>e=.returned (.bool (zaC a q&&!zaC p q'))∧Ext w w':=by
 have g:∀ W,Ext w W->Calls Tryz.prog 276 #[.agg #[.slice PA pn pc,.slice AA an ac,sv,L,(2:Int),G],.slice SA sn sc,(0:Int)] W fun e w'=>e=.returned (.bool (zaC a q))∧Ext W w':=
  fun W hW=>zhg (i:=0) (a:=a) (q:=q) (st:=st) (us:=[a,p]) (h.ext hW) (h'.ext zbs.ok hW) hsn sM (by rw [Nat.add_zero];exact hq) hqa
 replace g:=za g;have j:∀ W,Ext w W->Calls Tryz.prog 276 #[.agg #[.slice PA pn pc,.slice AA an ac,sv,L,(2:Int),G],.slice SA sn sc,(1:Int)] W fun e w'=>e=.returned (.bool (zaC p q'))∧Ext W w':=
  fun W hW=>zhg (i:=1) (a:=p) (q:=q') (st:=st) (us:=[a,p]) (h.ext hW) (h'.ext zbs.ok hW) hsn sM hq' hqp
 replace j:=za j;clear h h' hsn hq hqa hq' hqp;generalize zaC a q=x at *;generalize zaC p q'=y at *
 go_enter Tryz.func217,Tryz.ntmps217
 have d:Ext w (w.alloc (.cells #[.slice PA pn pc,.slice AA an ac,sv,L,(2:Int),G] 185)):=(dB w).alloc _;have c:=dX w 185 #[.slice PA pn pc,.slice AA an ac,sv,L,(2:Int),G];cases x
 all_goals
  go_upto_region 1 with fail
  generalize w.alloc _=o at *;have m:=c.cell;go_wp2_with (first
   |(go_at_call 276;with_reducible refine (g.out _ d).mono (mQ fun r f=>?_);have b:=d.trans f;have n:=(c.ext f).cell)
   |(go_at_call 276;with_reducible refine (j.out _ b).mono (mQ fun s l=>?_);have k:=b.trans l))
  go_ret;exact⟨zj sM,by first|exact k|exact b⟩
theorem ziW {L:Int}      {p:Aut}(h:zeY w PA pn AA an ss [p])(h':Lst zbs w lo hi SA st)(hsn:st.length=sn)(hq:st[pn]?=some q)(hqa:q<p.acc.length) :
  Calls Tryz.prog 217 #[.agg #[.slice PA pn pc,.slice AA an ac,sv,L,(3:Int),G],.slice SA sn sc,mv] w fun e w'=>e=.returned (.bool (!zaC p q))∧Ext w w':=by
 have c:∀ W,Ext w W->Calls Tryz.prog 276 #[.agg #[.slice PA pn pc,.slice AA an ac,sv,L,(3:Int),G],.slice SA sn sc,(0:Int)] W fun e w'=>e=.returned (.bool (zaC p q))∧Ext W w':=
  fun W hW=>zhg (i:=0) (a:=p) (q:=q) (st:=st) (us:=[p]) (h.ext hW) (h'.ext zbs.ok hW) hsn sM (by rw [Nat.add_zero];exact hq) hqa
 replace c:=za c;clear h h' hsn hq hqa;generalize zaC p q=x at *
 go_enter Tryz.func217,Tryz.ntmps217
 go_upto_region 1 with fail
 generalize U0:w.alloc _=k at *;obtain⟨b,d⟩:=Ext.x1_ U0;clear U0;have j:=d.cell;go_wp2_with (go_at_call 276;with_reducible refine (c.out _ b).mono (mQ fun l g=>?_);have f:=b.trans g)
 go_ret;exact⟨zj sM,f⟩
theorem prodS_snoc (l:List Nat) (x:Nat):zax (l++[x])=zax l*x:=by rw [zcL];simp [zax]
theorem encF_zero (sz:List Nat):∀ n,encF 0 sz (dT n 0)=0:=by
 have a:∀ (sz:List Nat) (n:Nat),encF 0 sz (dT n 0)=0:=by
  intro sz
  induction sz with
  |nil=>intro n;cases n<;>rfl
  |cons s r ih =>
   intro n;cases n with
   |zero=>rfl
   |succ n=>rw [List.replicate_succ,encF,Nat.zero_mul,dW];exact ih n
 exact a sz
def ds0 (goal:Nat->Bool) (k:Nat):List Int:=(fK k).map fun x=>if goal x then 0 else -1
theorem ds0_get {goal:Nat->Bool}  (h:(ds0 goal k)[x]?=some v):v=if goal x then 0 else -1:=by
 unfold ds0 at h;rw [dS,Option.map_eq_some_iff] at h;obtain⟨y,b,c⟩:=h;have d:=(List.getElem?_eq_some_iff.1 b);obtain⟨f,a⟩:=d;rw [List.getElem_range] at a;subst a;exact c.symm
theorem zdB {L:Nat}  {us:List Aut} {goal:Nat->Bool} (h:zeY w PA pn AA an ss us)(hok:zdk ss us)(hS:Lst zbs w lo hi SA (dT n 0))(hn:(szs ss us).length=n)(hL:L<64)
  (HF:∀ W,Ext w W->∀ (x:Nat) (A:Option Addr) (l h c:Nat) (mv:Value),x<zJ (zbf ss us)->Lst zbs W l h A (dec (szs ss us) x)->Calls Tryz.prog 217 #[.agg #[.slice PA pn pc,.slice AA an ac,.slice SA n sc,L,K,G],.slice A n c,mv] W fun e W'=>e=.returned (.bool (goal x))∧Ext W W') :
  Calls Tryz.prog 140 #[.agg #[.slice PA pn pc,.slice AA an ac,.slice SA n sc,L,K,G]] w (zP w (pnx (zbf ss us)) [0] goal (letters L 6)):=by
 obtain⟨w1,U0⟩:∃ x,Hid (w.alloc (.cells #[.slice PA pn pc,.slice AA an ac,.slice SA n sc,L,K,G] 185)=x):=⟨_,za rfl⟩;have bC:Ext w w1:=((dB w).alloc _).trans (Ext.eq_ U0.out);have bh:=Ext.bl_ U0.out;have HN:=za (fun W (hW:Ext w W)=>h.ext hW);have bU:=za (fun W (hW:Ext w W)=>hS.ext zbs.ok hW);have bR:=za HF;have ba:=za hok;have Hn:=za hn;have c4:n<=5:=by rw [← hn];exact hok.len
 have Hz:=za hok.le16;have bb:=za (fun k=>hok.total ((szs ss us).take k) (List.take_sublist _ _));have b2:Sm L:=tM;obtain⟨N,aH⟩:∃ N:Nat,Hid (zax (szs ss us)=N):=⟨_,rfl⟩;have b3:1<=N∧N<=1048576:=by rw [← aH.out];exact hok.total _ (List.Sublist.refl _)
 have a8:=za (show zJ (zbf ss us)=N by unfold zJ;rw [zfq];exact aH.out);obtain⟨cY,aG⟩:=b3;have Hd:=za (show ∀ x l,x<N->l∈letters L 6->∀ y∈pnx (zbf ss us) x l,y<N from fun x l _ hl y hy=>by rw [← a8.out];exact zic hok.ok (zG.1 hl).1 y hy);have J:=za (show Rise (letters L 6) from ⟨fun l hl=>(zG.1 hl).1,fun a b x y hx hy hab=>by
  have:=List.pairwise_iff_getElem.1 (zhZ L 6) a b (List.getElem?_eq_some_iff.1 hx).1 (List.getElem?_eq_some_iff.1 hy).1 hab;rw [(List.getElem?_eq_some_iff.1 hx).2,(List.getElem?_eq_some_iff.1 hy).2] at this;exact this⟩)
 clear h hok hS hn HF;generalize hdd:pnx (zbf ss us)=d at *;have bV:=za hdd;clear hdd;generalize hLL:letters L 6=t at *;have aD:=za hLL;clear hLL
 go_enter Tryz.func140,Tryz.ntmps140
 go_upto_region 1 with fail
 rw [U0.out] at *;have c0:=bh.cell;go_upto_region 2 with (go_at_call 215;go_loud (refine (spec_l4Sizes (HN.out _ bC) ba.out).mono ?_);rintro e w2 ⟨Az,cz,rfl,aZ,Q⟩)
 rw [Hn.out] at aZ;rw [Hn.out];have ap:=za (fun W (hW:Ext w2 W)=>(Lst.ai (xs:=szs ss us) (c:=cz) (A:=Az) (by rw [Hn.out];exact aZ)).ext zbs.ok hW);have bD:=bC.trans Q;have bi:=bh.ext Q;clear aZ c0;go_wp2_with fail
 go_loopw [5,6] (fun v i wr=>∃ k y:Nat,i=.int .i64 k∧v=.int .i64 y∧k<=n∧y<=1048576∧Hid (y=zax ((szs ss us).take k))∧wr=w2) (fun _ i _=>n - (intOf i).toNat)
 case atStart=>exact⟨0,1,rfl,rfl,dG _,oM,rfl,rfl⟩
 case round =>
  obtain⟨k,y,rfl,rfl,hk,hy,aY,rfl⟩:=hrel
  by_cases hlt:k<n
  ·obtain⟨bz,oz,z,rfl,_,_,hz,hc⟩:=(ap.out _ (dB _)).num (show k<(szs ss us).length by rw [Hn.out];exact hlt);have s:=za (show y*z=zax ((szs ss us).take (k+1)) by rw [dO,hz.out,eD,prodS_snoc,aY.out]);have bs:y*z<=1048576:=by rw [s.out];exact (bb.out (k+1)).2
   obtain⟨yz,bJ⟩:∃ q:Nat,Hid (y*z=q):=⟨_,rfl⟩;have cy:(y:Int)*(z:Int)=(yz:Int):=by rw [← bJ.out];exact (Int.natCast_mul y z).symm
   rw [bJ.out] at bs s;go_wp2_with fail
   go_roundw
   case rel=>exact⟨k+1,yz,gM,gM,oM,bs,s,by first|rfl|trivial⟩
   case measure=>simp [intOf];omega
  ·obtain rfl:n=k:=oM;obtain rfl:y=N:=by rw [aY.out,dK (by rw [Hn.out];exact dE _)];exact aH.out
   clear aY hy;have c0:=bi.cell;have a7:=za (show Calls Tryz.prog 216 #[.agg #[.slice PA pn pc,.slice AA an ac,.slice SA n sc,L,K,G],.slice Az n cz,.int .i64 (y:Nat)] wr (RetMv wr (mvs d t y)) from by
    have:=spec_l4Moves (pc:=pc) (ac:=ac) (sv:=.slice SA n sc) (K:=K) (G:=G) (N:=y) (sc:=cz) (HN.out _ bD) ba.out (ap.out _ (dB _)) Hn.out hL aG;rw [bV.out,aD.out] at this;exact this)
   go_upto_region 8 with (go_at_call 216;refine a7.out.mono ?_;rintro e w3 ⟨Am,cm,rfl,bt,av⟩)
   rw [zda];have bE:=bD.trans av;have aI:=bi.ext av;have HM:=za (fun W (hW:Ext w3 W)=>bt.ext P3.ok hW);clear bt a7 c0;go_upto_region 9 with (at_make;refine zbm w3 w3 rfl _ _ 110 rfl 3 _ 1 8 Tryz.underlying110 zS _ _ y rfl rfl (dB _) oM lM ?_;intro w4 hw34 hown4 hx34 hsz4)
   have C:w4.ownsRow w3.heap.size 3 1 (.slice (some w3.heap.size) y y) y (ints (ds0 goal 0++dT y 0)):=by simpa [ints,ds0,Value.cells,toList_madeCells_one] using hown4
   clear hown4;obtain⟨Y,aK⟩:∃ Y,Hid (w3.heap.size=Y):=⟨_,rfl⟩;rw [aK.out] at C;rw [aK.out];clear hx34 hsz4;have ah:w3.heap.size<=Y:=oH aK.out;go_wp2_with fail
   go_loopw [9] (fun i wr=>∃ k:Nat,i=.int .i64 k∧k<=y∧wr.ownsRow Y 3 1 (.slice (some Y) y y) y (ints (ds0 goal k++dT (y - k) 0))∧Ext w3 wr) (fun i _=>y - (intOf i).toNat)
   case atStart=>exact⟨0,rfl,dG _,C,hw34⟩
   case round =>
    clear C hw34;obtain⟨k,rfl,hk,zje,hx⟩:=hrel
    by_cases hlt:k<y
    ·obtain⟨o0,g0⟩:=zaM zje k oM;have f0:=zje.frozenAt k;have O:=zje.stored k (.int .i64 (-1));have bA:k<(ints (ds0 goal k++dT (y - k) 0)).length:=by rw [zeM zje];omega
     have D:(ints (ds0 goal k++dT (y - k) 0)).set k (.int .i64 (-1))=ints (ds0 goal k++(-1) :: dT (y - k - 1) 0):=by
      rw [ints,ints,← iR]
      congr 1
      rw [iG _ _ (by simp [ds0]),show (ds0 goal k).length=k by simp [ds0],fC];obtain⟨m,hm⟩:∃ m,y - k=m+1:=⟨y - k - 1,oM⟩;rw [hm];rfl
     rw [D] at O;have bM:=O.1;have ai:Ext w3 (wr.setCell ⟨Y,k,none⟩ (.int .i64 (-1))):=hx.setCell (p:=⟨Y,k,none⟩) ah _;clear O D zje;go_upto_region 13 with fail
     clear g0 f0;have cM:=za bA;clear bA;generalize wr.setCell ⟨Y,k,none⟩ (.int .i64 (-1))=w5 at *;obtain⟨bm,om,v,cf,rfl,_,_,_,bo,Ar,cr,rfl,_⟩:=(HM.out w5 ai).get (show k<(mvs d t y).length by rw [zda];exact hlt);have cb:=bE.trans ai;have CB:∀ W,Ext w5 W->∀ j,W.cell? ⟨w.heap.size,j,none⟩=#[Value.slice PA pn pc,.slice AA an ac,.slice SA n sc,.int .i64 L,.int .i64 K,.int .i64 G][j]?:=fun W hW=>((aI.ext ai).ext hW).cell;have CM:∀ W,Ext w5 W->W.cell? ⟨bm,om+k,none⟩=some (.slice Ar cf.length cr):=fun W hW=>hW.aa bo;have CD:=za (fun W (hW:Ext w5 W)=>zfz (c:=cz) (y0:=k) (ap.out W ((av.trans ai).trans hW)) Hn.out oM Hz.out oM);have c1:(k:Int)<(y:Int):=oM;have aU:=dB w5;clear bo;refine uR (fun X=>Ext w5 X) [8] (zw.of [0,1,2,4,5,6,7,3,8]) ?_;refine uQ ?_;refine zd fun K hK=>?_;go_simp;refine (CD.out _ aU.drew).mono ?_;rintro e w6 ⟨A6,c6,rfl,g,E⟩;have aN:(dec (szs ss us) k).length=n:=by rw [zcX];exact Hn.out
     have be:=Lst.ai g;rw [aN];have U:=aU.drew.trans E;refine hK.out _ _ U ?_;refine pT ?_;refine uQ ?_;have a4:=za (fun mv=>bR.out w6 (cb.trans U) k A6 _ _ c6 mv (by rw [a8.out];exact hlt) be);have S:=zh bM U;have aB:=ai.trans U;clear CD CB CM aU g be E bM;cases hgk:goal k
     ·have Z:=za hgk;clear hgk;refine zb fun K hK=>?_;go_simp;refine (a4.out _).mono ?_;rw [Z.out];rintro e w7 ⟨rfl,H⟩;refine hK.out _ _ ?_;refine pT ?_;refine uQ ?_;refine ze ?_;have zjh:=zh S H;rw [show ds0 goal k++(-1) :: dT (y - k - 1) 0=ds0 goal (k+1)++dT (y - (k+1)) 0 by
       rw [ds0,ds0,List.range_succ,eK];simp [Z.out,Nat.sub_sub]] at zjh
      go_wp2_with fail
      go_roundw
      case rel=>exact⟨k+1,gM,oM,zjh,aB.trans H⟩
      case measure=>simp [intOf];omega
     ·have Z:=za hgk;clear hgk;refine zb fun K hK=>?_;go_simp;refine (a4.out _).mono ?_;rw [Z.out];rintro e w7 ⟨rfl,H⟩;refine hK.out _ _ ?_;refine pT ?_;refine uQ ?_;refine ze ?_;have M:=zh S H;have bH:=aB.trans H;obtain⟨o1,g1⟩:=zaM M k oM;have f1:=M.frozenAt k;have O:=M.stored k (.int .i64 0);have D:(ints (ds0 goal k++(-1) :: dT (y - k - 1) 0)).set k (.int .i64 0)=ints (ds0 goal (k+1)++dT (y - (k+1)) 0):=by
       rw [ints,ints,← iR]
       congr 1
       rw [iG _ _ (by simp [ds0]),show (ds0 goal k).length=k by simp [ds0],fC,ds0,ds0,List.range_succ,eK];simp [Z.out,Nat.sub_sub]
      rw [D] at O;have zjh:=O.1;have bI:Ext w3 (w7.setCell ⟨Y,k,none⟩ (0:Int)):=bH.setCell (p:=⟨Y,k,none⟩) ah _;clear O D;go_wp2_with fail
      go_roundw
      case rel=>exact⟨k+1,gM,oM,zjh,bI⟩
      case measure=>simp [intOf];omega
    ·obtain rfl:y=k:=oM;rw [fC,List.replicate_zero,List.append_nil] at zje;have b0:=za (zbB.init (d:=d) (L:=t) (goal:=goal) (N:=y) (ds:=ds0 goal y) (by simp [ds0]) (fun x v hv=>ds0_get hv));have ad:=za (spec_l4Dist (c:=cm) (cap:=y) (d:=d) (L:=t) (goal:=goal) (HM.out wr hx) (Or.inr ah) zje b0.out aG Hd.out);clear zje;go_upto_region 16 with (go_at_call 219;refine ad.out.mono ?_;rintro e w6 ⟨rfl,ds,B,g,ay⟩)
     have E:Ext w3 w6:=hx.frm ay (fun k hk e=>oM);clear ad hx ay;have HD:=za (fun W (hW:Ext w6 W)=>(Lst.bf (xs:=ds) (A:=some ⟨Y,0,none⟩) (by rw [B.out.1];exact eE g)).ext IntP.ok hW);have bp:Hid (ds.length=y):=B.out.1;clear g;have aT:=bE.trans E;have c6:=(aI.ext E).cell;have HE:=za (show Calls Tryz.prog 220 #[.slice Az n cz,.slice SA n sc] w6 fun e w'=>e=.returned (.int .i64 0)∧Ext w6 w' from by
      have:=ziU (c:=cz) (d:=sc) (ap.out w6 (av.trans E)) (bU.out w6 aT) (by rw [i6];exact Hn.out) (fun k _=>by rw [List.take_replicate,encF_zero];omega) (fun x hx=>(Hz.out x hx).2) (fun x hx=>by rw [(List.mem_replicate.1 hx).2];omega);rw [Hn.out,i6,encF_zero] at this;exact this)
     go_upto_region 17 with (go_at_call 220;refine HE.out.mono (mQ fun w7 H=>?_))
     have aj:=H.alloc (.cells #[(0:Int)] 3);have bj:=dX w7 3 #[(0:Int)];have aw:Lst zbs (w7.alloc (.cells #[(0:Int)] 3)) w7.heap.size (w7.alloc (.cells #[(0:Int)] 3)).heap.size (some ⟨w7.heap.size,0,none⟩) [0]:=Lst.bh ⟨rfl,sM,fun _=>⟨_,rfl,dE _,sM,fun j u hu=>by
      rw [zX,dW,bj.cell];cases j with
      |zero=>simpa [zae] using hu
      |succ j=>simp [zae] at hu⟩⟩
     clear H bj HE c6;generalize hga:w7.heap.size=ga at *;clear hga;generalize w7.alloc _=w8 at *;have c8:=(aI.ext (E.trans aj)).cell;have a6:=za (show Calls Tryz.prog 134 #[.int .i64 (L:Nat)] w8 (zbM w8 t) from by
      have:=zY L b2 w8;rw [aD.out] at this;exact this)
     go_upto_region 18 with (go_at_call 134;refine a6.out.mono ?_;rintro e w9 ⟨AL,cL,rfl,af,aX⟩)
     have F:=aj.trans aX;have HL:=za (fun W (hW:Ext w9 W)=>(Lst.ai af).ext zbs.ok hW);have ab:=aw.ext zbs.ok aX;clear af aw c8 a6 aX aj;obtain⟨bd,od,v0,hA,_,_,bB,bk⟩:=(HD.out w9 F).int (show 0<ds.length by rw [bp.out];omega);obtain⟨rfl,rfl⟩:Y=bd∧0=od:=by injection hA with e;injection e with e1 e2;exact⟨e1,e2⟩
     rw [dW] at bk;have bn:=ab.num2 (k:=0) (x:=0) rfl;rw [dW] at bn;clear hA;rcases B.out.2 0 v0 bB.out with ⟨rfl,b6⟩|⟨r0,rfl,hM⟩
     ·have ag:=za (show zP w d [0] goal t (.returned (.tuple #[ByteArray.empty,.bool false])) w9 from ⟨aT.trans F,Or.inr ⟨rfl,lost_of b6⟩⟩);go_wp2_with fail
      go_loopw [10,12,13,14,15] (fun _ o v _ _ wr=>o=.string ByteArray.empty∧v=.int .i64 (-1)∧wr=w9) (fun _ _ _ _ _ _=>0)
      case atStart=>exact⟨rfl,rfl,rfl⟩
      case round =>
       obtain⟨rfl,rfl,rfl⟩:=hrel;go_wp2;go_ret2;exact ag.out
     ·have c7:=hM.lt oM Hd.out;have HG:=za (zdz.begin_ hM);clear hM;go_wp2_with fail
      go_loopw [10,12,13,14,15] (fun a o v _ _ wr=>∃ (r:Nat) (f V:List Nat) (A:Option Addr) (c lo hi:Nat),a=.slice A f.length c∧o=.string (wstr V)∧v=.int .i64 (r:Nat)∧Hid (zdz d t goal [0] f V r)∧Lst zbs wr lo hi A f∧V.length+r=r0∧Ext w9 wr) (fun _ _ v _ _ _=>(intOf v).toNat)
      case atStart=>exact⟨r0,[0],[],_,_,_,_,rfl,rfl,rfl,HG,ab,sM,dB _⟩
      case round =>
       clear HG ab bn bk bB;obtain⟨r,f,V,Aa,ca,la,ha,rfl,rfl,rfl,hG,b4,cv,hx⟩:=hrel;have h6:=za (fun l hl=>J.out.1 l hl);have cc:=zhp V
       by_cases hr:0<r
       ·obtain⟨q,rfl⟩:∃ q,r=q+1:=⟨r - 1,oM⟩;obtain⟨K0,l0,ar,x0,n0,aS,aV,bg⟩:=hG.out.exists_;have ct:=(List.getElem?_eq_some_iff.1 ar).1;have ax:=za (fun n (hn:n∈f)=>(goes_congr (d:=d) (d':=d) (L:=t) (start:=[0]) (N:=y) (fun x hx=>by simp at hx;omega) (fun x l hx hl=>⟨fun _=>Iff.rfl,Hd.out x l hx hl⟩) hG.out.letters).2 (hG.out.goes n hn).1);have T:=za (fun (n:Nat) (hn:n∈f) (l:Nat) (hl:l∈t) (x:Nat) (hx:x∈d n l)=>B.out.val (n:=q) (Hd.out n l (ax.out n hn) hl x hx));have bS:=za (show ∃ n∈f,x0∈d n l0∧ds[x0]?=some (q:Int) from ⟨n0,aS,aV,(T.out n0 aS l0 (dC ar) x0 aV).2 bg⟩);have a5:=za ar;clear ar aV bg aS;have cX:t.length<=6:=by rw [← aD.out];exact zy L 6
        have CC:=za (fun W (hW:Ext wr W) (k l:Nat) (hl:t[k]?=some l)=>ziT (c:=cm) (c':=y) (c2:=ca) (r:=(q:Int)) (HM.out W (E.trans ((F.trans hx).trans hW))) (HD.out W ((F.trans hx).trans hW)) (b4.ext zbs.ok hW) rfl ax.out hl bp.out aG Hd.out);obtain⟨l1,bq⟩:∃ l1,Hid (t[0]?=some l1):=⟨_,za (dD oM)⟩;have b7:((q+1:Nat):Int) - 1=(q:Int):=oM;go_upto_region 24 with (go_at_call 221;refine (CC.out wr (dB _) 0 l1 bq.out).mono ?_;rintro e df ⟨nx,⟨cE,cP,rfl,R,az⟩,bw⟩)
        have ae:=Lst.ai R;clear R;go_wp2_with fail
        go_loopw [14,15] (fun k v wr2=>∃ (I l:Nat) (nx:List Nat) (A:Option Addr) (c lo hi:Nat),k=.int .i64 I∧v=.slice A nx.length c∧Lst zbs wr2 lo hi A nx∧I<=K0∧Hid (t[I]?=some l∧(∀ x,x∈nx↔∃ n∈f,x∈d n l∧ds[x]?=some (q:Int))∧∀ (j m:Nat),j<I->t[j]?=some m->∀ n∈f,∀ x∈d n m,ds[x]?≠some (q:Int))∧Ext wr wr2) (fun k _ _=>t.length - (intOf k).toNat)
        case atStart=>exact⟨0,l1,nx,_,_,_,_,rfl,rfl,ae,dG _,(show Hid _ from ⟨bq.out,bw.out.2,fun j m hj=>oM⟩),az⟩
        case round =>
         clear ae bw az;obtain⟨I,l,nx,An,cn,ln,c5,rfl,rfl,bu,c3,s,Q⟩:=hrel;have cw:=bu.len
         by_cases hz0:nx.length=0
         ·have cZ:I<K0:=by
           rcases Nat.lt_or_ge I K0 with h1|h1
           ·exact h1
           ·exfalso;obtain rfl:I=K0:=oM;obtain⟨n,h2,h3,h4⟩:=bS.out;have h5:=s.out.1;rw [a5.out] at h5;obtain rfl:=Option.some.inj h5;have:=(s.out.2.1 x0).2 ⟨n,h2,h3,h4⟩;rw [dU hz0] at this;cases this
          obtain⟨l2,br⟩:∃ l2,Hid (t[I+1]?=some l2):=⟨_,za (dD oM)⟩;have cd:((nx.length:Int)==0)=true:=by simp [hz0]
          have aJ:=za (CC.out _ Q (I+1) l2 br.out);have b5:((I+1:Nat):Int)=(I:Int)+1:=oM;rw [b5] at aJ;go_upto_region 26 with fail
          go_wp2_with (go_at_call 221;refine aJ.out.mono ?_;rintro e dg ⟨bK,⟨cF,cQ,rfl,au,bF⟩,bx⟩)
          have hst2:=za (show t[I+1]?=some l2∧(∀ x,x∈bK↔∃ n∈f,x∈d n l2∧ds[x]?=some (q:Int))∧∀ (j m:Nat),j<I+1->t[j]?=some m->∀ n∈f,∀ x∈d n m,ds[x]?≠some (q:Int) from ⟨br.out,bx.out.2,fun j m hj hm n hn x hx=>by
           by_cases e:j=I
           ·subst e;have h5:=s.out.1;rw [hm] at h5;obtain rfl:=Option.some.inj h5;intro h6;have:=(s.out.2.1 x).2 ⟨n,hn,hx,h6⟩;rw [dU hz0] at this;cases this
           ·exact s.out.2.2 j m oM hm n hn x hx⟩)
          have aP:=Lst.ai au;have aW:=Q.trans bF;go_roundw
          case rel=>exact⟨I+1,l2,bK,_,_,_,_,gM,rfl,aP,oM,hst2,aW⟩
          case measure=>simp [intOf];omega
         ·have cd:((nx.length:Int)==0)=false:=by rw [beq_eq_false_iff_ne];omega
          have b1:=za (show zdz d t goal [0] nx (V++[l]) q from by
           obtain⟨h1,h2,h3⟩:=s.out;refine hG.out.step J.out h1 (fun x=>?_) (fun e=>hz0 (by rw [e];rfl)) (fun j m hj hm n hn x hx=>?_)
           ·rw [h2 x];constructor
            ·rintro ⟨n,h4,h5,h6⟩;exact⟨n,h4,h5,(T.out n h4 l (dC h1) x h5).1 h6⟩
            ·rintro ⟨n,h4,h5,h6⟩;exact⟨n,h4,h5,(T.out n h4 l (dC h1) x h5).2 h6⟩
           ·intro hM;exact h3 j m hj hm n hn x hx ((T.out n hn m (dC hm) x hx).2 hM))
          obtain⟨bl,ol,l',rfl,_,_,aL,aJ⟩:=(HL.out _ (hx.trans Q)).num (show I<t.length by omega);obtain rfl:l=l':=by have h1:=aL.out;rw [s.out.1] at h1;exact Option.some.inj h1
          have aN:=h6.out l (dC aL.out);have cx:(wstr V).size+(strOfNums [((97+l:Nat):Int)]).size<=9223372036854775807:=by rw [cc,zeb];omega
          have b9:¬ 9223372036854775807<V.length+1:=oM;have cW:=zeb ((97+l:Nat):Int);have b8:=za (wstr_snoc V l);have aO:(V++[l]).length+q=r0:=by rw [dN,dZ];omega
          clear aL;go_wp2_with (go_at_call 138;refine (zeu aN).mono (mQ fun dh aA=>?_))
          have bG:=(hx.trans Q).trans aA;have aQ:=bu.ext zbs.ok aA;go_roundw
          case rel=>exact⟨q,nx,V++[l],_,_,_,_,rfl,by rw [b8.out,Int.natCast_add];rfl,by first|rfl|rw [b7],b1,aQ,aO,bG⟩
          case measure=>simp [intOf]
       ·obtain rfl:r=0:=oM;have ag:=za (show zP w d [0] goal t (.returned (.tuple #[.string (wstr V),.bool true])) wr from ⟨aT.trans (F.trans hx),Or.inl ⟨V,rfl,hG.out.fin J.out.1⟩⟩);go_wp2;go_ret2;exact ag.out
end Go.Proofs.YtckbjnndaaoddaaGreatDoor
