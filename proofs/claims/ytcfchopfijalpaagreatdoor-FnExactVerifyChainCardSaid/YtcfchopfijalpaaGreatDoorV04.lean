/- spec.l4Moves -/
import Derived.Test.YtcfchopfijalpaaGreatDoorV03
import Derived.IntWalk
set_option maxHeartbeats 8000000
set_option maxRecDepth 100000
namespace Go.Proofs.YtcfchopfijalpaaGreatDoor
open Go Go.RowKit
open Blk renaming new->eX
open Ext renaming refl->dB,x1_->gX
open Frm renaming setCell->eC
open Int renaming natCast_ediv->jW,natCast_emod->jF,natCast_mul->gK,toNat_natCast->fC
open List renaming eq_nil_of_length_eq_zero->eK,getD_eq_getElem?_getD->eF,getElem?_eq_getElem->dC,getElem?_map->eL,getElem?_of_mem->eT,getElem?_range->gB,length_append->eO,length_map->eQ,length_replicate->jR,length_singleton->eZ,length_take->fH,map_append->fB,map_congr_left->jE,map_map->gZ,map_set->jO,mem_append->iA,mem_of_getElem?->eB,mem_of_mem_drop->jU,mem_singleton->fS,range->fE,range_succ->iB,replicate->eN,set_append_right->fL,take_add_one->eH,take_length->fI,take_of_length_le->eE
open Nat renaming div_le_self->jA,le_refl->eA,le_trans->eJ,lt_trichotomy->fY,mod_lt->iT,mul_le_mul->fX,pow_le_pow_right->eW,sub_self->fO,zero_add->eS,zero_le->eD
open Option renaming map_eq_some_iff->hE,map_some->iK,toList_some->e7
open Reads renaming ae->eY
variable {A AA B B' M PA SA:Option Addr} {G K v:Int} {L st:List Nat} {N ac an base c c' d d' dm g12 g13 g4 g5 ga hi hi' i k l lo lo' m m' n pc pn q r sc sn x:Nat} {W w w':World} {a p:Aut} {ds xs:List Int} {mv sv:Value} {ss:List Sys}
theorem info_intss:(Tryz.prog.info? 25).map (fun i=>(i.zero,i.size,i.bytes))=some (some (.slice none 0 0),1,24):=kM
def mvs (d:Nat->Nat->List Nat) (L:List Nat) (N:Nat):List (List (List Nat)):=(fE N).map fun x=>L.map fun l=>d x l
theorem zdn (d:Nat->Nat->List Nat) (L:List Nat) (N:Nat):(mvs d L N).length=N:=by simp [mvs]
abbrev P3:Lay (List (List Nat)):=LstP (LstP zbg)
theorem P3.ok:Lay.Ok P3:=LstP.ok (LstP.ok zbg.ok)
def RetMv (w:World) (mv:List (List (List Nat))) (e:Ending) (w':World):Prop:=∃ A c,e=.returned (.slice A mv.length c)∧Lst P3 w' w.heap.size w'.heap.size A mv∧Ext w w'
theorem spec_l4Moves {L:Nat}  {us:List Aut} (h:zeQ w PA pn AA an ss us)(hok:zdw ss us)(hS:Lst zbg w lo hi SA (szs ss us))(hn:(szs ss us).length=n)(hL:L<64)(hN:N<=1048576) :
  Calls Tryz.prog 213 #[.agg #[.slice PA pn pc,.slice AA an ac,sv,L,K,G],.slice SA n sc,N] w (RetMv w (mvs (pnx (zaW ss us)) (letters L 6) N)):=by
 have HN:=za (fun W (hW:Ext w W)=>h.ext hW);have HS:=za (fun W (hW:Ext w W)=>hS.ext zbg.ok hW);have aB:=za hok;have Hn:=za hn;have a1:n<=5:=by rw [← hn];exact hok.len
 have Hz:=za hok.le16;have aD:Sm L:=tM;have a0:=zJ L 6;have az:=za (show ∀ l∈letters L 6,l<6 from fun l hl=>(zB.1 hl).1);clear h hok hS hn
 go_enter Tryz.func213,Tryz.ntmps213
 go_upto_region 1 with fail
 generalize U0:w.alloc _=B at *;obtain⟨U,aa⟩:=gX U0;clear U0;go_upto_region 2 with fail
 have V:=(dB B).alloc (.cells #[] 25);have ag:w.heap.size<=B.heap.size:=U.size;have al:=World.ownsRow_lit (base:=B.heap.size) (e:=25) (size:=1) B #[] 0 (eA _) lM rfl;have J:∀ b,(Value.slice (some B.heap.size) 0 0).ownBlock=some b->b<(B.alloc (.cells #[] 25)).heap.size:=fun b hb=>by
  simp [Value.ownBlock] at hb
  simp;omega
 generalize hg1:(some ⟨B.heap.size,0,none⟩:Option Addr)=A1 at *;clear hg1;generalize B.alloc _=w2 at *;have c2:=(aa.ext V).cell;go_upto_region 3 with (go_at_call 131;refine (zaG L aD _).mono ?_;rintro e Y ⟨AL,cL,rfl,E,I⟩)
 have ak:=V.trans I;have d:=Lst.ah E;have aH:=I.size;have am:=zg al I;clear al E V I c2;generalize hlq:letters L 6=f at *;have aU:=za hlq;clear hlq;go_wp2_with fail
 go_loopw [7,9,10,11,12] (fun v i _ _ _ wr=>∃ k:Nat,i=.int .i64 k∧k<=N∧Grl P3 wr B.heap.size 25 v (mvs (pnx (zaW ss us)) f k)∧Ext B wr∧Lst zbg wr w2.heap.size Y.heap.size AL f∧(∀ b,v.ownBlock=some b->b<w2.heap.size∨Y.heap.size<=b)∧Y.heap.size<=wr.heap.size) (fun _ i _ _ _ _=>N - (intOf i).toNat)
 case atStart=>exact⟨0,rfl,eD _,⟨[],am,fun i r x hr=>by simp at hr⟩,ak,d,fun b hb=>Or.inl (J b hb),eA _⟩
 case round =>
  clear am d J;obtain⟨k,rfl,hk,C,hx,d,R,a2⟩:=hrel;have o:=zdn (pnx (zaW ss us)) f k;obtain⟨A0,c0,rfl⟩:=C.form;rw [o];rw [o] at R;have Z:=za R;clear R
  by_cases hlt:k<N
  ·have ai:=U.trans hx;have aC:=za (show mvs (pnx (zaW ss us)) f (k+1)=mvs (pnx (zaW ss us)) f k++[f.map fun l=>pnx (zaW ss us) k l] by simp [mvs,iB]);rw [o] at C;go_upto_region 7 with (go_at_call 215;refine (zfv (HS.out _ ai) Hn.out oM Hz.out oM).mono ?_;rintro e z ⟨A4,c4,rfl,p,y⟩)
   have O:(dec (szs ss us) k).length=n:=by rw [zdf];exact Hn.out
   rw [O] at p;rw [O];have HT:=za (fun W (hW:Ext z W)=>(Lst.ah (xs:=dec (szs ss us) k) (c:=c4) (A:=A4) (by rw [O];exact p)).ext zbg.ok hW);clear p;go_upto_region 8 with fail
   have a:=(dB z).alloc (.cells #[] 128);have ao:=World.ownsRow_lit (base:=z.heap.size) (e:=128) (size:=1) z #[] 0 (eA _) lM rfl;generalize hg1:(some ⟨z.heap.size,0,none⟩:Option Addr)=A5 at *;clear hg1;generalize z.alloc _=w5 at *;have ah:=ai.trans y;have ay:=za (fun W (hW:Ext z W)=>((aa.ext (hx.trans y)).ext hW).cell);have HL:=za (fun W (hW:Ext z W)=>d.ext zbg.ok (y.trans hW));go_wp2_with fail
   go_loopw [11,12] (fun v i wr=>∃ j:Nat,i=.int .i64 j∧j<=f.length∧Grl (LstP zbg) wr z.heap.size 128 v ((f.take j).map fun l=>pnx (zaW ss us) k l)∧Ext z wr) (fun _ i _=>f.length - (intOf i).toNat)
   case atStart=>exact⟨0,rfl,eD _,⟨[],ao,fun i r x hr=>by simp at hr⟩,a⟩
   case round =>
    clear ao a;obtain⟨j,rfl,hj,F,a⟩:=hrel;obtain⟨A6,c6,rfl⟩:=F.form;have t:((f.take j).map fun l=>pnx (zaW ss us) k l).length=j:=by simp;omega
    rw [t];rw [t] at F
    by_cases hlj:j<f.length
    ·obtain⟨bl,ol,l,rfl,_,_,hl,ab⟩:=(HL.out _ a).num hlj;have aE:=az.out l (eB hl.out);have aG:=za (show (f.take (j+1)).map (fun l=>pnx (zaW ss us) k l)=(f.take j).map (fun l=>pnx (zaW ss us) k l)++[pnx (zaW ss us) k l] by rw [eH,hl.out];simp);have CL:∀ W,Ext wr W->W.cell? ⟨bl,ol+j,none⟩=some (.int .i64 (l:Nat)):=fun W hW=>hW.aa ab;have CB:=fun W (hW:Ext wr W)=>ay.out W (a.trans hW);have CC:=za (show ∀ W,Ext wr W->Calls Tryz.prog 266 #[.agg #[.slice PA pn pc,.slice AA an ac,sv,L,K,G],.slice SA n sc,.slice A4 n c4,l] W (zbI W (pnx (zaW ss us) k l)) from fun W hW=>spec_l4Nexts (HN.out W ((ah.trans a).trans hW)) aB.out (HS.out W ((ah.trans a).trans hW)) (HT.out W (a.trans hW)) Hn.out aE);have aZ:(j:Int)<(f.length:Int):=oM;have M:=dB wr;obtain⟨H,m,T⟩:=F;rw [t] at m;clear ab;go_upto_region 11 with fail
     refine uR (fun X=>Ext wr X) [8,9,10] (zu.of [0,1,2,3,4,5,6,7,8,9,10,11]) ?_;refine uQ ?_;refine zb fun K hK=>?_;go_simp;refine (CC.out _ M.drew).mono ?_;rintro e w7 ⟨A7,c7,rfl,S,aI⟩;have s:=M.drew.trans aI;refine hK.out _ _ ?_;refine pT ?_;refine zb fun K hK=>?_;go_simp;refine hK.out _ _ ?_;refine pT ?_;refine zb fun K hK=>?_;refine zbT z w7 _ _ _ rfl 128 _ 1 24 Tryz.underlying25 zdl rfl dM (.slice A6 j c6) j H _ _ rfl rfl (a.trans s).size (zg m s) rfl (zbW _ _ _) lM oM ?_;intro g8 cap8 w8 hown8 hg8 hat8 hlt8;refine hK.out _ _ ?_;refine pT ?_;refine uQ ?_;refine zf ?_;have D:Grl (LstP zbg) w8 z.heap.size 128 (.slice (some g8) (j+1) cap8) ((f.take j).map (fun l=>pnx (zaW ss us) k l)++[pnx (zaW ss us) k l]):=by
      have:=Grl.push2 (LstP.ok zbg.ok) (v:=.slice A6 j c6) (xs:=(f.take j).map fun l=>pnx (zaW ss us) k l) (g:=g8) (cap:=cap8) T (by rw [t];exact m) s ⟨A7,c7,rfl,Lst.ah S⟩ (eA wr.heap.size) a.size (eA _) (by rw [t];exact hown8) hg8 hat8;rwa [t] at this
     have aJ:Ext z w8:=(a.trans s).grown hg8 (fun q' hq'=>(m.lt q' hq').1);go_wp2_with fail
     go_roundw
     case rel=>exact⟨j+1,gM,oM,by rw [aG.out];exact D,aJ⟩
     case measure=>simp [intOf];omega
    ·obtain rfl:j=f.length:=oM;rw [fI] at F;have u:=y.trans a;have ad:=F.lst (LstP.ok zbg.ok);obtain⟨H,m,T⟩:=C;rw [o] at m;go_wp2_with (at_builtin;refine zal B wr rfl _ _ _ rfl 25 _ 1 24 Tryz.underlying226 info_intss rfl dM (.slice A0 k c0) k H _ _ rfl rfl (hx.trans u) (zg m u) rfl (zbW _ _ _) lM oM ?_;intro v8 w8 hext8 hown8 hg8 hat8)
     have D:Grl P3 w8 B.heap.size 25 v8 (mvs (pnx (zaW ss us)) f k++[f.map fun l=>pnx (zaW ss us) k l]):=
      Grl.push P3.ok (v:=.slice A0 k c0) T (by rw [o];exact m) u (⟨A6,c6,sM,ad⟩:P3 _ _ _ (.slice A6 f.length c6) _) y.size (hx.trans y).size (eA _) (by rw [o];exact hown8) hg8 hat8
     have Q:Lst zbg w8 w2.heap.size Y.heap.size AL f:=(d.ext zbg.ok u).frm zbg.ok (Frm.af hg8) (fun q h1 h2 hq=>by have:=Z.out q hq;omega);have ae:∀ b,v8.ownBlock=some b->b<w2.heap.size∨Y.heap.size<=b:=fun b hb=>by
      rcases hat8 with h1|h1
      ·rw [h1] at hb;exact Z.out b hb
      ·rw [h1] at hb;have:=Option.some.inj hb;have:=u.size;omega
     have aF:Y.heap.size<=w8.heap.size:=by have:=u.size;have:=(Frm.af hg8).size;omega
     go_roundw
     case rel=>exact⟨k+1,gM,oM,by rw [aC.out];exact D,hext8,Q,ae,aF⟩
     case measure=>simp [intOf];omega
  ·obtain rfl:N=k:=oM;have af:=za (show RetMv w (mvs (pnx (zaW ss us)) f N) (.returned (.slice A0 N c0)) wr from by
    refine⟨A0,c0,by rw [o],?_,U.trans hx⟩;have:=C.lst P3.ok;exact this.more P3.ok ag (eA _))
   clear C;go_wp2;go_ret;exact af.out
section
variable (d:Nat->Nat->List Nat) (L:List Nat) (goal:Nat->Bool)
def Dn:Nat->Nat->Prop
 |0,x=>goal x=true
 |n+1,x=>∃ l∈L,∃ y∈d x l,Dn n y
def Mn (n x:Nat):Prop:=Dn d L goal n x∧∀ m,m<n->¬ Dn d L goal m x
end
section
variable {d:Nat->Nat->List Nat} {L:List Nat} {goal:Nat->Bool} {start:List Nat} {N:Nat}
theorem Dn.word:∀ {n x:Nat} {v:List Nat},Dn d L goal n x->zbh d start v x->∃ u:List Nat,u.length=n∧(∀ l∈u,l∈L)∧∃ y,zbh d start (v++u) y∧goal y=true:=by
 intro n
 induction n with
 |zero=>intro x v h hg;exact⟨[],rfl,sM,x,by simpa using hg,h⟩
 |succ n ih =>
  intro x v h hg;obtain⟨l,i,y,j,h⟩:=h;obtain⟨u,b,c,z,f,g⟩:=ih h (.snoc hg j);refine⟨l :: u,by simp [b],?_,z,by simpa using f,g⟩;intro k a;rcases List.mem_cons.1 a with rfl|a
  ·exact i
  ·exact c k a
theorem zbh.dn:∀ {u v:List Nat} {y:Nat},zbh d start (v++u) y->goal y=true->(∀ l∈u,l∈L)->∃ x,zbh d start v x∧Dn d L goal u.length x:=by
 intro u
 induction u with
 |nil=>intro v y h hg _;exact⟨y,by simpa using h,hg⟩
 |cons l u ih =>
  intro v y h hg hl;have a:zbh d start ((v++[l])++u) y:=by simpa using h
  obtain⟨x,b,c⟩:=ih a hg (fun k hk=>hl k (by simp [hk]));obtain⟨n,f,g⟩:=b.inv;exact⟨n,f,l,hl l sM,x,g,c⟩
theorem Dn.least (h:Dn d L goal n x):∃ m,m<=n∧Mn d L goal m x:=by
 induction n using Nat.strongRecOn with
 |_ n ih =>
  by_cases hm:∃ m,m<n∧Dn d L goal m x
  ·obtain⟨m,a,b⟩:=hm;obtain⟨k,f,c⟩:=ih m a b;exact⟨k,oM,c⟩
  ·exact⟨n,eA _,h,fun m a b=>hm ⟨m,a,b⟩⟩
theorem Mn.next (h:Mn d L goal (n+1) x):∃ l∈L,∃ y∈d x l,Mn d L goal n y:=by
 obtain⟨⟨l,a,y,b,c⟩,f⟩:=h;exact⟨l,a,y,b,c,fun m hm hd=>f (m+1) oM ⟨l,a,y,b,hd⟩⟩
theorem Mn.uniq (h:Mn d L goal m x) (k:Mn d L goal n x):m=n:=by
 rcases fY m n with a|a|a
 ·exact absurd h.1 (k.2 m a)
 ·exact a
 ·exact absurd k.1 (h.2 n a)
def Dst (d:Nat->Nat->List Nat) (L:List Nat) (goal:Nat->Bool) (k:Nat) (x:Nat) (v:Int):Prop:=(v = -1∧∀ m,m<k->¬ Dn d L goal m x)∨∃ n:Nat,n<k∧v=n∧Mn d L goal n x
def zbu (d:Nat->Nat->List Nat) (L:List Nat) (goal:Nat->Bool) (N k i:Nat) (ds:List Int):Prop:=ds.length=N∧∀ (x:Nat) (v:Int),ds[x]?=some v->Dst d L goal (if x<i then k+1 else k) x v
theorem zbu.round_ (h:zbu d L goal N k N ds):zbu d L goal N (k+1) 0 ds:=⟨h.1,fun x v hx=>by
 have h1:=h.2 x v hx
 have h2:=(List.getElem?_eq_some_iff.1 hx).1
 rw [if_pos (by rw [← h.1];exact h2)] at h1
 rw [if_neg oM]
 exact h1⟩
theorem zbu.init (hl:ds.length=N)(h:∀ (x:Nat) (v:Int),ds[x]?=some v->v=if goal x then 0 else -1):zbu d L goal N 1 0 ds:=⟨hl,fun x v hx=>by
 rw [if_neg oM]
 have:=h x v hx
 cases hg:goal x
 ·rw [hg] at this
  refine Or.inl ⟨by simpa using this,fun m hm=>?_⟩
  obtain rfl:m=0:=oM
  simp [Dn,hg]
 ·rw [hg] at this
  exact Or.inr ⟨0,oM,by simpa using this,hg,fun m hm=>oM⟩⟩
theorem zbu.skip (h:zbu d L goal N k i ds)(hv:ds[i]?=some v)(h0:0<=v):zbu d L goal N k (i+1) ds:=⟨h.1,fun x u hx=>by
 have h1:=h.2 x u hx
 by_cases hxi:x=i
 ·subst hxi
  rw [hv] at hx
  obtain rfl:=Option.some.inj hx
  rw [if_pos oM]
  rw [if_neg oM] at h1
  rcases h1 with ⟨h2,_⟩|⟨n,h2,h3⟩
  ·omega
  ·exact Or.inr ⟨n,oM,h3⟩
 ·by_cases h2:x<i
  ·rw [if_pos h2] at h1
   rw [if_pos oM]
   exact h1
  ·rw [if_neg h2] at h1
   rw [if_neg oM]
   exact h1⟩
def ziK (d:Nat->Nat->List Nat) (L:List Nat) (ds:List Int) (k:Nat) (x:Nat):Bool:=L.any fun l=>(d x l).any fun y=>ds.getD y (-1)==(k:Int)
theorem near_iff :ziK d L ds k x=true↔∃ l∈L,∃ y∈d x l,ds[y]?=some (k:Int):=by
 simp only [ziK,List.any_eq_true,beq_iff_eq];constructor
 ·rintro ⟨l,a,y,b,h⟩;refine⟨l,a,y,b,?_⟩;rw [eF] at h;cases hh:ds[y]? with
  |none=>rw [hh] at h;simp at h
  |some v=>rw [hh] at h;simp at h;rw [h]
 ·rintro ⟨l,a,y,b,h⟩;exact⟨l,a,y,b,by rw [eF,h];rfl⟩
theorem zbu.near (h:zbu d L goal N (k+1) i ds)(hd:∀ x l,x<N->l∈L->∀ y∈d x l,y<N)(hv:ds[i]?=some v)(h0:v<0):ziK d L ds k i=true↔Mn d L goal (k+1) i:=by
 have p:i<N:=by rw [← h.1];exact (List.getElem?_eq_some_iff.1 hv).1
 have u:=h.2 i v hv;rw [if_neg oM] at u;have g:∀ m,m<k+1->¬ Dn d L goal m i:=by
  rcases u with ⟨_,b⟩|⟨n,_,c,_⟩
  ·exact b
  ·omega
 have s:∀ y (n:Nat),ds[y]?=some (n:Int)->Mn d L goal n y:=fun y n a=>by
  rcases h.2 y _ a with ⟨b,_⟩|⟨m,_,b,c⟩
  ·omega
  ·obtain rfl:n=m:=oM;exact c
 rw [near_iff];constructor
 ·rintro ⟨l,f,y,a,r⟩;exact⟨⟨l,f,y,a,(s y k r).1⟩,g⟩
 ·rintro ⟨⟨l,f,y,a,b⟩,_⟩;refine⟨l,f,y,a,?_⟩;have q:y<ds.length:=by rw [h.1];exact hd i l p f y a
  have j:ds[y]?=some ds[y]:=dC q;rw [j]
  congr 1
  rcases h.2 y _ j with ⟨_,c⟩|⟨n,_,c,t⟩
  ·exact absurd b (c k (by split<;>omega))
  ·rw [c];rcases fY n k with o|o|o
   ·exact absurd ⟨l,f,y,a,t.1⟩ (g (n+1) oM)
   ·rw [o]
   ·exact absurd b (t.2 k o)
theorem zbu.keep (h:zbu d L goal N (k+1) i ds)(hd:∀ x l,x<N->l∈L->∀ y∈d x l,y<N)(hv:ds[i]?=some v)(h0:v<0)(hn:ziK d L ds k i=false):zbu d L goal N (k+1) (i+1) ds:=⟨h.1,fun x u hx=>by
 have h1:=h.2 x u hx
 by_cases hxi:x=i
 ·subst hxi
  have hM:¬ Mn d L goal (k+1) x:=fun hm=>by rw [(h.near hd hv h0).2 hm] at hn;cases hn
  rw [hv] at hx
  obtain rfl:=Option.some.inj hx
  rw [if_pos oM]
  rw [if_neg oM] at h1
  rcases h1 with ⟨h2,h3⟩|⟨n,h2,h3,_⟩
  ·refine Or.inl ⟨h2,fun m hm hdm=>?_⟩
   by_cases he:m=k+1
   ·subst he
    exact hM ⟨hdm,h3⟩
   ·exact h3 m oM hdm
  ·omega
 ·by_cases h2:x<i
  ·rw [if_pos h2] at h1
   rw [if_pos oM]
   exact h1
  ·rw [if_neg h2] at h1
   rw [if_neg oM]
   exact h1⟩
theorem zbu.put (h:zbu d L goal N (k+1) i ds)(hd:∀ x l,x<N->l∈L->∀ y∈d x l,y<N)(hv:ds[i]?=some v)(h0:v<0)(hn:ziK d L ds k i=true):zbu d L goal N (k+1) (i+1) (ds.set i ((k+1:Nat):Int)):=⟨by rw [List.length_set];exact h.1,fun x u hx=>by
 by_cases hxi:x=i
 ·subst hxi
  rw [List.getElem?_set_self (List.getElem?_eq_some_iff.1 hv).1] at hx
  obtain rfl:=Option.some.inj hx
  rw [if_pos oM]
  exact Or.inr ⟨k+1,oM,rfl,(h.near hd hv h0).1 hn⟩
 ·rw [List.getElem?_set_ne (fun e=>hxi e.symm)] at hx
  have h1:=h.2 x u hx
  by_cases h2:x<i
  ·rw [if_pos h2] at h1
   rw [if_pos oM]
   exact h1
  ·rw [if_neg h2] at h1
   rw [if_neg oM]
   exact h1⟩
theorem set_count {u:Int}(hv:ds[i]?=some v)(h0:v = -1)(hu:0<=u):(ds.set i u).count (-1)+1=ds.count (-1):=by
 obtain⟨a,e⟩:=List.getElem?_eq_some_iff.1 hv;have b:1<=ds.count (-1):=List.count_pos_iff.2 (by rw [← h0,← e];exact List.getElem_mem a);rw [List.count_set a,e,h0];have:(u==(-1:Int))=false:=by simp;omega
 simp [this];omega
def DsFin (d:Nat->Nat->List Nat) (L:List Nat) (goal:Nat->Bool) (N:Nat) (ds:List Int):Prop:=ds.length=N∧∀ (x:Nat) (v:Int),ds[x]?=some v->(v = -1∧∀ m,¬ Dn d L goal m x)∨∃ n:Nat,v=n∧Mn d L goal n x
theorem zbu.fin (h:zbu d L goal N k N ds)(hd:∀ x l,x<N->l∈L->∀ y∈d x l,y<N)(hno:∀ x,x<N->¬ Mn d L goal k x):DsFin d L goal N ds:=by
 have p:∀ n x,x<N->¬ Mn d L goal (k+n) x:=by
  intro n
  induction n with
  |zero=>exact hno
  |succ n ih =>
   intro x hx hm;obtain⟨l,j,y,o,c⟩:=hm.next;exact ih y (hd x l hx j y o) c
 refine⟨h.1,fun x v hx=>?_⟩;have a:x<N:=by rw [← h.1];exact (List.getElem?_eq_some_iff.1 hx).1
 have c:=h.2 x v hx;rw [if_pos a] at c;rcases c with ⟨i,f⟩|⟨n,_,f⟩
 ·refine Or.inl ⟨i,fun m hm=>?_⟩;obtain⟨b,_,g⟩:=hm.least
  by_cases h5:b<k
  ·exact f b oM g.1
  ·have:=p (b - k) x a;rw [show k+(b - k)=b by omega] at this;exact this g
 ·exact Or.inr ⟨n,f⟩
theorem DsFin.val (h:DsFin d L goal N ds) (hx:x<N):ds[x]?=some (n:Int)↔Mn d L goal n x:=by
 have f:x<ds.length:=by rw [h.1];exact hx
 have c:ds[x]?=some ds[x]:=dC f;constructor
 ·intro h1;rcases h.2 x _ h1 with ⟨a,_⟩|⟨m,a,b⟩
  ·omega
  ·obtain rfl:n=m:=oM;exact b
 ·intro hm;rw [c];rcases h.2 x _ c with ⟨_,a⟩|⟨m,a,b⟩
  ·exact absurd hm.1 (a n)
  ·rw [a,b.uniq hm]
theorem wval_lt (w:List Nat)(h:∀ l∈w,l<6):zcn w<7 ^ w.length∧7 ^ w.length<=6*zcn w+1:=by
 have a:∀ n (w:List Nat),w.length=n->(∀ l∈w,l<6)->zcn w<7 ^ n∧7 ^ n<=6*zcn w+1:=by
  intro n
  induction n with
  |zero =>
   intro w hw _;obtain rfl:=eK hw;simp [zcn]
  |succ n ih =>
   intro w hw hl;rcases zT w with rfl|⟨u,l,rfl⟩
   ·simp at hw
   ·have b:=ih u (by simpa using hw) (fun x hx=>hl x (by simp [hx]));have c:=hl l sM;rw [zav,Nat.pow_succ];omega
 exact a w.length w rfl h
theorem zhr {u v:List Nat}(hu:∀ l∈u,l<6)(hv:∀ l∈v,l<6)(h:v.length<u.length):zcn v<zcn u:=by
 have b:=wval_lt u hu;have c:=wval_lt v hv;have a:7 ^ (v.length+1)<=7 ^ u.length:=eW oM h;rw [Nat.pow_succ] at a;omega
structure zdE (d:Nat->Nat->List Nat) (L:List Nat) (goal:Nat->Bool) (start:List Nat) (at_:List Nat) (v:List Nat) (r:Nat):Prop where
 goes:∀ x∈at_,zbh d start v x∧Mn d L goal r x
 all:∀ x,zbh d start v x->Dn d L goal r x->x∈at_
 first:∀ u:List Nat,(∀ l∈u,l∈L)->u.length=v.length->zcn u<zcn v->∀ x,zbh d start u x->¬ Dn d L goal r x
 least:∀ u:List Nat,(∀ l∈u,l∈L)->u.length<v.length+r->∀ x,zbh d start u x->goal x=false
 letters:∀ l∈v,l∈L
 some_:at_≠[]
theorem zdE.begin_ (h:Mn d L goal r x):zdE d L goal [x] [x] [] r:=by
 refine⟨fun y hy=>?_,fun y hy _=>hy.ag,fun u _ hu=>?_,fun u hl hu y hy=>?_,sM,sM⟩
 ·simp at hy;subst hy;exact⟨.nil sM,h⟩
 ·simp at hu;subst hu;intro h;simp [zcn] at h
 ·simp at hu;cases hg:goal y
  ·rfl
  ·exfalso;obtain⟨z,b,a⟩:=zbh.dn (v:=[]) (u:=u) (by simpa using hy) hg hl;have:=b.ag;simp at this;subst this;exact h.2 u.length oM a
theorem zdE.fin {at_ v:List Nat}(h:zdE d L goal start at_ v 0)(hL:∀ l∈L,l<6):Found d start goal L v:=by
 refine⟨h.letters,?_,fun u hu hlt x a=>?_⟩
 ·obtain⟨x,a⟩:=List.exists_mem_of_ne_nil _ h.some_;exact⟨x,(h.goes x a).1,(h.goes x a).2.1⟩
 ·rcases fY u.length v.length with b|b|b
  ·exact h.least u hu oM x a
  ·have:=h.first u hu b hlt x a
   cases hg:goal x
   ·rfl
   ·exact absurd hg this
  ·have:=zhr (u:=u) (v:=v) (fun l hl=>hL l (hu l hl)) (fun l hl=>hL l (h.letters l hl)) b;omega
theorem zdE.exists_ {at_ v:List Nat} (h:zdE d L goal start at_ v (r+1)):∃ (k l:Nat),L[k]?=some l∧∃ x n,n∈at_∧x∈d n l∧Mn d L goal r x:=by
 obtain⟨n,a⟩:=List.exists_mem_of_ne_nil _ h.some_;obtain⟨l,f,y,g,b⟩:=(h.goes n a).2.next;obtain⟨k,c⟩:=eT f;exact⟨k,l,c,y,n,a,g,b⟩
theorem zdE.step {at_ v next:List Nat} (h:zdE d L goal start at_ v (r+1))(hL:Rise L)(hk:L[k]?=some l)(hn:∀ x,x∈next↔∃ n∈at_,x∈d n l∧Mn d L goal r x)(hne:next≠[])
  (hno:∀ (j m:Nat),j<k->L[j]?=some m->∀ n∈at_,∀ x∈d n m,¬ Mn d L goal r x):zdE d L goal start next (v++[l]) r:=by
 have t:∀ l∈L,l<6:=hL.1;have c:=eB hk;have f:∀ (u:List Nat),(∀ m∈u,m∈L)->u.length=v.length+1->∀ x,zbh d start u x->Dn d L goal r x->Mn d L goal r x:=by
  intro u hu hlen x hx hd;refine⟨hd,fun m hm hdm=>?_⟩;obtain⟨s,g,b,y,C,F⟩:=hdm.word hx;have:=h.least (u++s) (fun z hz=>by
   rcases List.mem_append.1 hz with a|a
   ·exact hu z a
   ·exact b z a) (by rw [eO];omega) y C
  rw [this] at F;cases F
 refine⟨fun x hx=>?_,fun x hx hd=>?_,fun u hu hlen hlt x hx hd=>?_,fun u hu hlen=>?_,?_,hne⟩
 ·obtain⟨n,g,b,C⟩:=(hn x).1 hx;exact⟨.snoc (h.goes n g).1 b,C⟩
 ·obtain⟨n,g,b⟩:=hx.inv;have E:n∈at_:=h.all n g ⟨l,c,x,b,hd⟩;exact (hn x).2 ⟨n,E,b,f (v++[l]) (fun m hm=>by
   rcases List.mem_append.1 hm with a|a
   ·exact h.letters m a
   ·rw [List.mem_singleton.1 a];exact c) sM x hx hd⟩
 ·rcases zT u with rfl|⟨u,m,rfl⟩
  ·simp at hlen
  ·obtain⟨n,g,b⟩:=hx.inv;have o:=hu m sM;have q:∀ z∈u,z∈L:=fun z hz=>hu z (by simp [hz]);have i:u.length=v.length:=by simpa using hlen
   have p:Dn d L goal (r+1) n:=⟨m,o,x,b,hd⟩;rw [zav,zav] at hlt;have H:=t m o;have G:=t l c
   by_cases hw:zcn u<zcn v
   ·exact h.first u q i hw n g p
   ·have e:zcn u=zcn v:=oM;obtain rfl:=wval_inj _ u v (eA _) (fun z hz=>t z (q z hz)) (fun z hz=>t z (h.letters z hz)) e;obtain⟨j,B⟩:=eT o;have D:j<k:=by
     rcases fY j k with a|a|a
     ·exact a
     ·subst a;rw [hk] at B;have:=Option.some.inj B;omega
     ·have:=hL.2 k j _ _ hk B a;omega
    exact hno j m D B n (h.all n g p) x b (f _ hu sM x hx hd)
 ·exact h.least u hu (by rw [eO,eZ] at hlen;omega)
 ·intro m hm;rcases List.mem_append.1 hm with a|a
  ·exact h.letters m a
  ·rw [List.mem_singleton.1 a];exact c
theorem lost_of (h:∀ m,¬ Dn d L goal m x):Lost d [x] goal L:=fun v hv y hy=>by
 cases hg:goal y
 ·rfl
 ·exfalso
  obtain⟨z,hz,hd⟩:=zbh.dn (v:=[]) (u:=v) (by simpa using hy) hg hv
  have:=hz.ag
  simp at this
  subst this
  exact h _ hd
theorem goes_congr {d':Nat->Nat->List Nat} {start:List Nat} (hs:∀ x∈start,x<N)(hd:∀ x l,x<N->l∈L->(∀ y,y∈d x l↔y∈d' x l)∧∀ y∈d x l,y<N) {v:List Nat}(hv:∀ l∈v,l∈L):∀ {x:Nat},(zbh d start v x↔zbh d' start v x)∧(zbh d start v x->x<N):=by
 have g:∀ n (v:List Nat),v.length=n->(∀ l∈v,l∈L)->∀ x,(zbh d start v x↔zbh d' start v x)∧(zbh d start v x->x<N):=by
  intro n
  induction n with
  |zero =>
   intro v hv _ x;obtain rfl:=eK hv;exact⟨⟨fun h=>.nil h.ag,fun h=>.nil h.ag⟩,fun h=>hs x h.ag⟩
  |succ n ih =>
   intro v hn hv x;rcases zT v with rfl|⟨u,l,rfl⟩
   ·simp at hn
   ·have f:=hv l sM;have a:=ih u (by simpa using hn) (fun m hm=>hv m (by simp [hm]));refine⟨⟨fun h=>?_,fun h=>?_⟩,fun h=>?_⟩
    ·obtain⟨m,b,c⟩:=h.inv;exact .snoc ((a m).1.1 b) (((hd m l ((a m).2 b) f).1 x).1 c)
    ·obtain⟨m,b,c⟩:=h.inv;have i:=(a m).1.2 b;exact .snoc i (((hd m l ((a m).2 i) f).1 x).2 c)
    ·obtain⟨m,b,c⟩:=h.inv;exact (hd m l ((a m).2 b) f).2 x c
 exact fun {x}=>g v.length v rfl hv x
theorem zeI {l:List Nat}(h:l.Nodup) {p:Nat}(hl:∀ x∈l,x<p):l.length<=p:=by
 have a:l ⊆ fE p:=fun x hx=>List.mem_range.2 (hl x hx);have:=List.Nodup.length_le_of_subset h a;simpa using this
theorem Mn.lt (h:Mn d L goal n x)(hx:x<N)(hd:∀ x l,x<N->l∈L->∀ y∈d x l,y<N):n<N:=by
 have c:∀ n x,x<N->Mn d L goal n x->∃ b:List Nat,b.length=n+1∧b.Nodup∧∀ y∈b,y<N∧∃ m,m<=n∧Mn d L goal m y:=by
  intro n
  induction n with
  |zero=>intro x hx h;exact⟨[x],rfl,sM,fun y a=>by simp at a;subst a;exact⟨hx,0,eA _,h⟩⟩
  |succ n ih =>
   intro x hx h;obtain⟨l,r,y,a,k⟩:=h.next;obtain⟨b,f,g,o⟩:=ih y (hd x l hx r y a) k;refine⟨x :: b,by simp [f],List.nodup_cons.2 ⟨fun hm=>?_,g⟩,fun z j=>?_⟩
   ·obtain⟨_,m,s,i⟩:=o x hm;have:=h.uniq i;omega
   ·rcases List.mem_cons.1 j with rfl|j
    ·exact⟨hx,n+1,eA _,h⟩
    ·obtain⟨p,m,t,q⟩:=o z j;exact⟨p,m,oM,q⟩
 obtain⟨b,k,f,g⟩:=c n x hx h;have:=zeI f fun y a=>(g y a).1;omega
end
def IntP:Lay Int:=fun _ _ _ r n=>r=.int .i64 n
theorem IntP.ok:Lay.Ok IntP:=⟨fun h _ _=>h,fun h _ _=>h⟩
theorem Lst.av (h:Reads W lo hi 1 A xs.length (ints xs)):Lst IntP W lo hi A xs:=⟨ints xs,h,fun i r x hr hx=>by
 simp only [ints,eL,hx,iK] at hr
 exact (Option.some.inj hr).symm⟩
theorem Lst.int (h:Lst IntP W lo hi A xs)(hk:k<xs.length):∃ b o x,A=some ⟨b,o,none⟩∧lo<=b∧b<hi∧Hid (xs[k]?=some x)∧W.cell? ⟨b,o+k,none⟩=some (.int .i64 x):=by
 obtain⟨b,o,r,x,e,a,c,d,f,g⟩:=h.get hk;exact⟨b,o,x,e,a,c,d,by rw [f,g]⟩
def nearL (rows:List (List Nat)) (ds:List Int) (k:Int):Bool:=rows.any fun ys=>ys.any fun y=>ds.getD y (-1)==k
theorem near_row {d:Nat->Nat->List Nat}   :nearL (L.map fun l=>d x l) ds (k:Int)=ziK d L ds k x:=by
 unfold nearL ziK;rw [List.any_map];rfl
theorem any_stop {α:Type} {l:List α} {p:α->Bool}  {x:α}(h:l[k]?=some x)(hp:p x=true):l.any p=true:=List.any_eq_true.2 ⟨x,eB h,hp⟩
theorem any_step {α:Type} {l:List α} {p:α->Bool}  {x:α}(h:l[k]?=some x)(hk:(l.take k).any p=false)(hp:p x=false):(l.take (k+1)).any p=false:=by
 rw [eH,h];simp [hk,hp]
theorem spec_l4Near {rows:List (List Nat)}  {k:Int} (h:Lst (LstP zbg) w lo hi A rows)(h':Lst IntP w lo' hi' B ds)(hr:rows.length=r)(hn:ds.length=n)(hb:∀ ys∈rows,∀ y∈ys,y<n) :
  Calls Tryz.prog 268 #[.slice A r c,.slice B n c',k] w fun e w'=>e=.returned (.bool (nearL rows ds k))∧w=w':=by
 have E:=za hb;have C:=za hr;have F:=za hn;have t:=h.len;have u:=h'.len;rw [hr] at t;rw [hn] at u;clear hb hr hn
 go_enter Tryz.func268,Tryz.ntmps268
 go_wp2
 go_loop [7,8] (fun i _=>∃ a:Nat,i=.int .i64 a∧a<=r∧Hid ((rows.take a).any (fun ys=>ys.any fun y=>ds.getD y (-1)==k)=false)) (fun i _=>r - (intOf i).toNat)
 case atStart=>exact⟨0,rfl,eD _,rfl⟩
 case round =>
  obtain⟨a,rfl,R,s⟩:=hrel
  by_cases hlt:a<r
  ·obtain⟨b,o,v,ys,rfl,_,_,l,S,L,Q,rfl,D⟩:=h.get (show a<rows.length by rw [C.out];exact hlt);have I:=D.len;go_wp2
   go_loop [8] (fun i=>∃ j:Nat,i=.int .i64 j∧j<=ys.length∧Hid ((ys.take j).any (fun y=>ds.getD y (-1)==k)=false)) (fun i=>ys.length - (intOf i).toNat)
   case atStart=>exact⟨0,rfl,eD _,rfl⟩
   case round =>
    obtain⟨j,rfl,T,d⟩:=hrel
    by_cases hlj:j<ys.length
    ·obtain⟨M,U,y,rfl,_,_,m,G⟩:=D.num hlj;have z:=E.out ys (eB l.out) y (eB m.out);obtain⟨O,V,v,rfl,_,_,J,H⟩:=h'.int (show y<ds.length by rw [F.out];exact z);have q:=za (show ds.getD y (-1)=v by rw [eF,J.out];rfl)
     by_cases hvk:v=k
     ·subst hvk;have f:=za (show nearL rows ds v=true from any_stop l.out (any_stop m.out (by rw [q.out];simp)));go_wp2;go_ret;exact⟨zm (by rw [f.out]),rfl⟩
     ·have x:(v==k)=false:=by simp;omega
      have g:=za (any_step (p:=fun y=>ds.getD y (-1)==k) m.out d.out (show (ds.getD y (-1)==k)=false by rw [q.out];exact x));go_wp2
      go_round
      case rel=>exact⟨j+1,gM,oM,g⟩
      case measure=>simp [intOf];omega
    ·obtain rfl:j=ys.length:=oM;rw [fI] at d;have g:=za (any_step (p:=fun ys=>ys.any fun y=>ds.getD y (-1)==k) l.out s.out d.out);go_wp2
     go_round
     case rel=>exact⟨a+1,gM,oM,g⟩
     case measure=>simp [intOf];omega
  ·obtain rfl:a=r:=oM;have f:=za (show nearL rows ds k=false by
    have:=s.out;rw [eE (by rw [C.out];exact eA _)] at this;exact this)
   go_wp2;go_ret;exact⟨zm (by rw [f.out]),rfl⟩
theorem zbu.known {d:Nat->Nat->List Nat}  {goal:Nat->Bool}   (h:zbu d L goal N k i ds)(hv:ds[i]?=some v)(h0:0<=v):¬ Mn d L goal k i:=fun hm=>by
 have h1:=h.2 i v hv
 rw [if_neg oM] at h1
 rcases h1 with ⟨h2,_⟩|⟨n,h2,_,h3⟩
 ·omega
 ·have:=h3.uniq hm
  omega
theorem zbu.neg {d:Nat->Nat->List Nat}  {goal:Nat->Bool}    (h:zbu d L goal N k i ds)(hv:ds[x]?=some v)(h0:v<0):v = -1:=by
 rcases h.2 x v hv with ⟨a,_⟩|⟨n,_,a,_⟩
 ·exact a
 ·omega
def RetDs (d:Nat->Nat->List Nat) (L:List Nat) (goal:Nat->Bool) (N base gd cap:Nat) (w:World) (e:Ending) (w':World):Prop:=
 e=.returned (.tuple #[])∧∃ ds',Hid (DsFin d L goal N ds')∧w'.ownsRow base 3 1 (.slice (some gd) N cap) N (ints ds')∧Frm (fun k=>k=gd) w w'
theorem spec_l4Dist {gd cap:Nat}  {d:Nat->Nat->List Nat}  {goal:Nat->Bool} {ds:List Int} (h:Lst P3 w lo hi A (mvs d L N))(hg:gd<lo∨hi<=gd) (zjc:w.ownsRow base 3 1 (.slice (some gd) N cap) N (ints ds))(hds:zbu d L goal N 1 0 ds)(hN:N<=1048576)(hd:∀ x l,x<N->l∈L->∀ y∈d x l,y<N) :
  Calls Tryz.prog 216 #[.slice A N c,.slice (some gd) N cap] w (RetDs d L goal N base gd cap w):=by
 have HM:=za (fun W (hW:Frm (fun k=>k=gd) w W)=>h.frm P3.ok hW (fun k F R e=>oM));have Q:=za hd;have z:=za zjc;have E:=za hds;clear h hd zjc hds
 go_enter Tryz.func216,Tryz.ntmps216
 go_wp2
 go_loopw [4,5,6] (fun m v _ wr=>∃ (k:Nat) (ds:List Int) (g:Bool),m=.bool g∧v=.int .i64 ((k:Int)+1)∧k<=N+1∧Hid (if g=true then zbu d L goal N (k+1) 0 ds∧k+ds.count (-1)<=N else DsFin d L goal N ds)∧wr.ownsRow base 3 1 (.slice (some gd) N cap) N (ints ds)∧Frm (fun k=>k=gd) w wr) (fun _ v _ _=>N+3 - (intOf v).toNat)
 case atStart=>exact⟨0,ds,true,rfl,rfl,oM,(show Hid _ from by
  rw [if_pos rfl];refine⟨E.out,?_⟩;have:=List.count_le_length (l:=ds) (a:=(-1:Int));rw [E.out.1] at this;omega),z.out,Frm.refl _ _⟩
 case round =>
  clear z E;clear ds;obtain⟨k,ds,g,rfl,rfl,hk,b,zjc,f⟩:=hrel;cases g
  ·have M:=za (show RetDs d L goal N base gd cap w (.returned (.tuple #[])) wr from ⟨rfl,ds,(show DsFin d L goal N ds by have:=b.out;simpa using this),zjc,f⟩);clear zjc;go_wp2;exact bodyPost_ret (v:=.tuple #[]) (by simp [results,Tryz.results216,go_sem]) rfl M.out
  ·obtain⟨B,S⟩:zbu d L goal N (k+1) 0 ds∧k+ds.count (-1)<=N:=by have:=b.out;simpa using this
   have t:=za B;clear b B;obtain⟨O,G⟩:∃ O,Hid (ds.count (-1)=O):=⟨_,rfl⟩;rw [G.out] at S;go_wp2
   go_loopw [4,6] (fun m i wr=>∃ (i':Nat) (ds:List Int) (g:Bool),m=.bool g∧i=.int .i64 i'∧i'<=N∧Hid (zbu d L goal N (k+1) i' ds∧ds.count (-1)+(if g=true then 1 else 0)<=O∧(g=false->∀ x,x<i'->¬ Mn d L goal (k+1) x))∧wr.ownsRow base 3 1 (.slice (some gd) N cap) N (ints ds)∧Frm (fun k=>k=gd) w wr) (fun _ i _=>N - (intOf i).toNat)
   case atStart=>exact⟨0,ds,false,rfl,rfl,eD _,(show Hid _ from ⟨t.out,by rw [G.out];simp,fun _ x hx=>oM⟩),zjc,f⟩
   case round =>
    clear t zjc f G;clear ds;obtain⟨i,ds,g,rfl,rfl,hi,b,zjc,f⟩:=hrel
    by_cases hlt:i<N
    ·have o:ds.length=N:=b.out.1.1;obtain⟨bi,oi,v,hA,_,_,J,X⟩:=(Lst.av (xs:=ds) (by rw [o];exact eY zjc)).int (show i<ds.length by omega);obtain⟨rfl,rfl⟩:gd=bi∧0=oi:=by injection hA with e;injection e with e1 e2;exact⟨e1,e2⟩
     rw [eS] at X;clear hA
     by_cases hv0:v<0
     ·have Z:=b.out.1.neg J.out hv0;subst Z;obtain⟨bm,om,r,V,rfl,_,_,T,ah,Ar,cr,rfl,I⟩:=(HM.out wr f).get (show i<(mvs d L N).length by rw [zdn];exact hlt);have C:=za (show V=L.map fun l=>d i l by
       have F:=T.out;rw [mvs,eL,gB hlt] at F;exact (Option.some.inj F).symm)
      have s:=za (show nearL V ds (k:Int)=ziK d L ds k i by rw [C.out];exact near_row);have q:=Lst.av (xs:=ds) (by rw [o];exact eY zjc);have HC:=za (spec_l4Near (c:=cr) (c':=cap) (k:=(k:Int)) I q rfl o (fun ys hys y hy=>by
       rw [C.out] at hys;obtain⟨l,hl,rfl⟩:=List.mem_map.1 hys;exact Q.out i l hlt hl y hy))
      have ai:(k:Int)+1 - 1=(k:Int):=oM;cases hnb:ziK d L ds k i
      ·have H:=za (s.out.trans hnb);have n:=za hnb;clear hnb I q;have j:=za (show zbu d L goal N (k+1) (i+1) ds∧ds.count (-1)+(if g=true then 1 else 0)<=O∧(g=false->∀ x,x<i+1->¬ Mn d L goal (k+1) x) from
        ⟨b.out.1.keep Q.out J.out hv0 n.out,b.out.2.1,fun hm x hx=>by
         by_cases e:x=i
         ·subst e;intro hM;rw [(b.out.1.near Q.out J.out hv0).2 hM] at n;exact absurd n.out dM
         ·exact b.out.2.2 hm x oM⟩)
       go_wp2_with (go_at_call 268;with_reducible refine HC.out.mono ?_;rw [H.out];rintro e w4 ⟨rfl,rfl⟩)
       go_roundw
       case rel=>exact⟨i+1,ds,g,rfl,gM,oM,j,zjc,f⟩
       case measure=>simp [intOf];omega
      ·have H:=za (s.out.trans hnb);have n:=za hnb;clear hnb I q;have j:=za (show zbu d L goal N (k+1) (i+1) (ds.set i ((k+1:Nat):Int))∧(ds.set i ((k+1:Nat):Int)).count (-1)+(if true=true then 1 else 0)<=O∧(true=false->∀ x,x<i+1->¬ Mn d L goal (k+1) x) from
        ⟨b.out.1.put Q.out J.out hv0 n.out,by
         have F:=set_count (u:=((k+1:Nat):Int)) J.out rfl oM;have R:=b.out.2.1;simp only [if_true];cases g
         ·simp at R;omega
         ·simp at R;omega,fun h=>by cases h⟩)
       have f0:=zjc.frozenAt i;have U:=zjc.stored i (.int .i64 ((k:Int)+1));have D:(ints ds).set i (.int .i64 ((k:Int)+1))=ints (ds.set i ((k+1:Nat):Int)):=by
        rw [ints,ints,jO];rfl
       rw [D] at U;clear D;go_wp2_with (go_at_call 268;with_reducible refine HC.out.mono ?_;rw [H.out];rintro e w4 ⟨rfl,rfl⟩)
       go_roundw
       case rel=>exact⟨i+1,_,true,rfl,gM,oM,j,U.1,f.cell (p:=⟨gd,i,none⟩) rfl _⟩
       case measure=>simp [intOf];omega
     ·have j:=za (show zbu d L goal N (k+1) (i+1) ds∧ds.count (-1)+(if g=true then 1 else 0)<=O∧(g=false->∀ x,x<i+1->¬ Mn d L goal (k+1) x) from
       ⟨b.out.1.skip J.out oM,b.out.2.1,fun hm x hx=>by
        by_cases e:x=i
        ·subst e;exact b.out.1.known J.out oM
        ·exact b.out.2.2 hm x oM⟩)
      go_wp2;go_roundw
      case rel=>exact⟨i+1,ds,g,rfl,gM,oM,j,zjc,f⟩
      case measure=>simp [intOf];omega
    ·obtain rfl:N=i:=oM;have M:=za (show if g=true then zbu d L goal N (k+1+1) 0 ds∧k+1+ds.count (-1)<=N else DsFin d L goal N ds by
      obtain⟨F,R,h3⟩:=b.out;cases g
      ·rw [if_neg dM];exact F.fin Q.out (h3 rfl)
      ·rw [if_pos rfl];refine⟨F.round_,?_⟩;simp at R;omega)
     have Y:k+1<=N+1:=oM;go_wp2;go_roundw
     case rel=>exact⟨k+1,ds,g,rfl,gM,Y,M,zjc,f⟩
     case measure=>simp [intOf];omega
def zL (l:List ByteArray):List Value:=l.map Value.string
theorem zaH (l:List ByteArray):(zL l).length=l.length:=by simp [zL]
theorem conv_one (w:World) (x:Int):(convert 62 9 (.slice (some w.heap.size) 1 1)).run Tryz.prog (w.alloc (.cells #[.int .u8 x] 5))=.ok (.string (strOfNums [x])) (w.alloc (.cells #[.int .u8 x] 5)):=
 run_convert_bytes_arg _ _ 5 Tryz.underlying62 Tryz.underlying5 w.heap.size 0 1 1 [x] rfl (fun i hi=>by
  obtain rfl:i=0:=oM
  rw [(eX w 5 #[.int .u8 x]).cell];rfl) _ Tryz.underlying9
theorem size_one (x:Int):(strOfNums [x]).size=1:=by simp [strOfNums];rfl
theorem lbs_snoc (v:List Nat) (l:Nat):lbs (v++[l])=lbs v++[((97+l:Nat):Int)]:=by simp [lbs]
theorem zgl (a b:List Int):strOfNums (a++b)=strOfNums a++strOfNums b:=by
 apply ByteArray.ext;simp [strOfNums,ByteArray.data_append]
def wstr (v:List Nat):ByteArray:=strOfNums (lbs v)
theorem wstr_snoc (v:List Nat) (l:Nat):wstr (v++[l])=wstr v++strOfNums [((97+l:Nat):Int)]:=by rw [wstr,lbs_snoc,zgl];rfl
theorem zhq (v:List Nat):(wstr v).size=v.length:=by rw [wstr,strOfNums_size];simp [lbs]
theorem zey (h1:l<6) :
  Calls Tryz.prog 135 #[l] w fun e w'=>e=.returned (.string (strOfNums [((97+l:Nat):Int)]))∧Ext w w':=by
 have b:=conv_one w;have a:IntKind.u8.wrap (97+(l:Int))=((97+l:Nat):Int):=by rw [IntKind.wrap_u8];omega
 go_enter Tryz.func135,Tryz.ntmps135
 go_wp2;go_ret;exact⟨by first|rfl|(rw [a];rfl)|simp [a],(dB _).alloc _⟩
def RetClo (w:World) (d:Nat->Nat->List Nat) (ds:List Int) (at_:List Nat) (l:Nat) (r:Int) (N:Nat) (e:Ending) (w':World):Prop:=
 ∃ nx:List Nat,zbI w nx e w'∧Hid (nx.length<=N∧∀ x,x∈nx↔∃ n∈at_,x∈d n l∧ds[x]?=some r)
theorem ziT {lo2 hi2 c2:Nat} {C:Option Addr} {d:Nat->Nat->List Nat}   {at_:List Nat}  {r:Int} (h:Lst P3 w lo hi A (mvs d L N))(h':Lst IntP w lo' hi' B ds)(h2:Lst zbg w lo2 hi2 C at_)(hm:at_.length=m)(hat:∀ n∈at_,n<N)(hl:L[k]?=some l)(hds:ds.length=N)(hN:N<=1048576)(hd:∀ x l,x<N->l∈L->∀ y∈d x l,y<N) :
  Calls Tryz.prog 218 #[.slice A N c,.slice B N c',.slice C m c2,k,r] w (RetClo w d ds at_ l r N):=by
 have HM:=za (fun W (hW:Ext w W)=>h.ext P3.ok hW);have HD:=za (fun W (hW:Ext w W)=>h'.ext IntP.ok hW);have HA:=za (fun W (hW:Ext w W)=>h2.ext zbg.ok hW);have Hd:=za (fun x o=>hd x l o (eB hl));have ag:=za hat;have Hl:=za hl;have Hm:=za hm;have G:=za hds;have ak:=h2.len;rw [hm] at ak;have ai:k<L.length:=(List.getElem?_eq_some_iff.1 hl).1;have O:∀ n,n<N->(L.map fun l=>d n l)[k]?=some (d n l):=fun n _=>by rw [eL,hl];rfl
 have af:=za O;clear h h' h2 hd hat hl hm hds O
 go_enter Tryz.func218,Tryz.ntmps218
 go_upto_region 2 with fail
 have aa:=(dB w).alloc (.cells #[] 3);have u:=World.ownsRow_lit (base:=w.heap.size) (e:=3) (size:=1) w #[] 0 (eA _) lM rfl;generalize hg1:(some ⟨w.heap.size,0,none⟩:Option Addr)=A1 at *;clear hg1;generalize w.alloc _=w0 at *;go_wp2_with fail
 go_loopw [11,12,13,14] (fun v i _ _ wr=>∃ (a:Nat) (f:List Nat),i=.int .i64 a∧a<=m∧Hid (f.Nodup∧∀ x,x∈f↔∃ n∈at_.take a,x∈d n l∧ds[x]?=some r)∧wr.ownsRow w.heap.size 3 1 v f.length (zU f)∧Ext w wr) (fun _ i _ _ _=>m - (intOf i).toNat)
 case atStart=>exact⟨0,[],rfl,eD _,(show Hid _ from ⟨sM,sM⟩),by simpa [zU] using u,aa⟩
 case round =>
  clear u aa;obtain⟨a,f,rfl,ha,b,g,o⟩:=hrel;obtain⟨A0,M,rfl⟩:=zi g
  by_cases hlt:a<m
  ·obtain⟨ba,oa,n,rfl,_,_,hn,Q⟩:=(HA.out w (dB _)).num (show a<at_.length by rw [Hm.out];exact hlt);have D:=ag.out n (eB hn.out);obtain⟨bm,om,v,ad,rfl,_,_,Y,S,Ar,cr,rfl,Z⟩:=(HM.out w (dB _)).get (show n<(mvs d L N).length by rw [zdn];exact D);have E:=za (show ad=L.map fun l=>d n l by
    have p:=Y.out;rw [mvs,eL,gB D] at p;exact (Option.some.inj p).symm)
   have aj:k<ad.length:=by rw [E.out,eQ];exact ai
   obtain⟨br,aG,v,s,rfl,_,_,an,U,Ay,cy,rfl,J⟩:=Z.get aj;have F:=za (show s=d n l by
    have p:=an.out;rw [E.out,af.out n D] at p;exact (Option.some.inj p).symm)
   have aq:=J.len;have HY:=za (fun W (hW:Ext w W)=>J.ext zbg.ok hW);have ab:=za (show ∀ y∈s,y<N by rw [F.out];exact Hd.out n D);have al:=za (show at_.take (a+1)=at_.take a++[n] by rw [eH,hn.out];rfl);have R:=o.aa Q;have T:=o.aa S;have V:=o.aa U;clear J Q S U Z;go_wp2_with fail
   clear R T V
   go_loopw [11,14] (fun v i wr2=>∃ (j:Nat) (f:List Nat),i=.int .i64 j∧j<=s.length∧Hid (f.Nodup∧∀ x,x∈f↔(∃ n∈at_.take a,x∈d n l∧ds[x]?=some r)∨(x∈s.take j∧ds[x]?=some r))∧wr2.ownsRow w.heap.size 3 1 v f.length (zU f)∧Ext w wr2) (fun _ i _=>s.length - (intOf i).toNat)
   case atStart=>exact⟨0,f,rfl,eD _,(show Hid _ from ⟨b.out.1,fun x=>by rw [b.out.2 x];simp⟩),g,o⟩
   case round =>
    clear g o b;obtain⟨j,f,rfl,hj,b,g,o⟩:=hrel;obtain⟨A0,M,rfl⟩:=zi g
    by_cases hlj:j<s.length
    ·obtain⟨aC,oy,y,rfl,_,_,hy,aE⟩:=(HY.out _ o).num hlj;have am:=ab.out y (eB hy.out);obtain⟨bd,od,v,rfl,_,_,hv,aD⟩:=(HD.out _ o).int (show y<ds.length by rw [G.out];exact am);have I:=za (show s.take (j+1)=s.take j++[y] by rw [eH,hy.out];rfl)
     by_cases hvr:v=r
     ·have ah:=za (show ds[y]?=some r by rw [hv.out,hvr]);subst hvr;have t:=Lst.ah g;have HI:=za (spec_l4In (c:=M) (x:=y) t rfl);have au:f.length<=N:=zeI b.out.1 fun x o=>by
       rcases (b.out.2 x).1 o with ⟨_,_,_,p⟩|⟨_,p⟩<;>· have:=(List.getElem?_eq_some_iff.1 p).1;rw [G.out] at this;exact this
      by_cases hin:y∈f
      ·have H:=za (show decide (y∈f)=true by simp [hin]);have q:=za (show f.Nodup∧∀ x,x∈f↔(∃ n∈at_.take a,x∈d n l∧ds[x]?=some v)∨(x∈s.take (j+1)∧ds[x]?=some v) from ⟨b.out.1,fun x=>by
        rw [b.out.2 x,I.out,iA,fS];constructor
        ·rintro (h|⟨h,h'⟩)
         ·exact Or.inl h
         ·exact Or.inr ⟨Or.inl h,h'⟩
        ·rintro (h|⟨h|h,h'⟩)
         ·exact Or.inl h
         ·exact Or.inr ⟨h,h'⟩
         ·subst h;exact (b.out.2 x).1 hin⟩)
       clear t hin;go_wp2_with (go_at_call 269;with_reducible refine HI.out.mono ?_;rw [H.out];rintro e w4 ⟨rfl,rfl⟩)
       go_roundw
       case rel=>exact⟨j+1,f,gM,oM,q,g,o⟩
       case measure=>simp [intOf];omega
      ·have H:=za (show decide (y∈f)=false by simp [hin]);have q:=za (show (f++[y]).Nodup∧∀ x,x∈f++[y]↔(∃ n∈at_.take a,x∈d n l∧ds[x]?=some v)∨(x∈s.take (j+1)∧ds[x]?=some v) from ⟨List.nodup_append.2 ⟨b.out.1,sM,fun x o z hz e=>by simp at hz;subst hz;subst e;exact hin o⟩,fun x=>by
        rw [iA,fS,b.out.2 x,I.out,iA,fS];constructor
        ·rintro ((h|⟨h,h'⟩)|h)
         ·exact Or.inl h
         ·exact Or.inr ⟨Or.inl h,h'⟩
         ·subst h;exact Or.inr ⟨Or.inr rfl,ah.out⟩
        ·rintro (h|⟨h|h,h'⟩)
         ·exact Or.inl (Or.inl h)
         ·exact Or.inl (Or.inr ⟨h,h'⟩)
         ·exact Or.inr h⟩)
       clear t hin;go_wp2_with (first
        |(go_at_call 269;with_reducible refine HI.out.mono ?_;rw [H.out];rintro e w4 ⟨rfl,rfl⟩)
        |(at_builtin;refine zal w wr rfl _ _ _ rfl 3 _ 1 8 Tryz.underlying128 zai rfl dM (.slice A0 f.length M) _ _ _ _ rfl rfl o g rfl (zaY _) lM oM ?_;intro v' w5 hext5 zjo hg5 hat5))
       go_roundw
       case rel=>exact⟨j+1,f++[y],gM,oM,q,by rw [eO,zdU];exact zjo,hext5⟩
       case measure=>simp [intOf];omega
     ·have aF:(v==r)=false:=by simp;omega
      have q:=za (show f.Nodup∧∀ x,x∈f↔(∃ n∈at_.take a,x∈d n l∧ds[x]?=some r)∨(x∈s.take (j+1)∧ds[x]?=some r) from ⟨b.out.1,fun x=>by
       rw [b.out.2 x,I.out,iA,fS];constructor
       ·rintro (h|⟨h,h'⟩)
        ·exact Or.inl h
        ·exact Or.inr ⟨Or.inl h,h'⟩
       ·rintro (h|⟨h|h,h'⟩)
        ·exact Or.inl h
        ·exact Or.inr ⟨h,h'⟩
        ·subst h;rw [hv.out] at h';exact absurd (Option.some.inj h') hvr⟩)
      clear hvr;go_wp2_with fail
      go_roundw
      case rel=>exact⟨j+1,f,gM,oM,q,g,o⟩
      case measure=>simp [intOf];omega
    ·obtain rfl:j=s.length:=oM;have q:=za (show f.Nodup∧∀ x,x∈f↔∃ n∈at_.take (a+1),x∈d n l∧ds[x]?=some r from ⟨b.out.1,fun x=>by
      rw [b.out.2 x,fI,F.out,al.out];constructor
      ·rintro (⟨z,p,h2⟩|⟨p,h2⟩)
       ·exact⟨z,by simp [p],h2⟩
       ·exact⟨n,sM,p,h2⟩
      ·rintro ⟨z,p,h2⟩;rcases List.mem_append.1 p with p|p
       ·exact Or.inl ⟨z,p,h2⟩
       ·rw [List.mem_singleton.1 p] at h2;exact Or.inr h2⟩)
     go_wp2_with fail
     go_roundw
     case rel=>exact⟨a+1,f,gM,oM,q,g,o⟩
     case measure=>simp [intOf];omega
  ·obtain rfl:a=m:=oM;have X:=za (show RetClo w d ds at_ l r N (.returned (.slice A0 f.length M)) wr from by
    refine⟨f,⟨A0,M,rfl,g,o⟩,(show Hid _ from ⟨zeI b.out.1 fun x o=>?_,fun x=>?_⟩)⟩
    ·obtain⟨_,_,_,p⟩:=(b.out.2 x).1 o;have:=(List.getElem?_eq_some_iff.1 p).1;rw [G.out] at this;exact this
    ·rw [b.out.2 x,eE (by rw [Hm.out];exact eA _)])
   clear g;go_wp2;go_ret;exact X.out
theorem ziV {L:Int}    {q':Nat}  (h:zeQ w PA pn AA an ss [a,p])(h':Lst zbg w lo hi SA st)(hsn:st.length=sn)(hq:st[pn]?=some q)(hqa:q<a.acc.length)(hq':st[pn+1]?=some q')(hqp:q'<p.acc.length) :
  Calls Tryz.prog 214 #[.agg #[.slice PA pn pc,.slice AA an ac,sv,L,(2:Int),G],.slice SA sn sc,mv] w fun e w'=>e=.returned (.bool (zck a q&&!zck p q'))∧Ext w w':=by
 have g:∀ W,Ext w W->Calls Tryz.prog 267 #[.agg #[.slice PA pn pc,.slice AA an ac,sv,L,(2:Int),G],.slice SA sn sc,(0:Int)] W fun e w'=>e=.returned (.bool (zck a q))∧Ext W w':=
  fun W hW=>zhf (i:=0) (a:=a) (q:=q) (st:=st) (us:=[a,p]) (h.ext hW) (h'.ext zbg.ok hW) hsn sM (by rw [Nat.add_zero];exact hq) hqa
 replace g:=za g;have j:∀ W,Ext w W->Calls Tryz.prog 267 #[.agg #[.slice PA pn pc,.slice AA an ac,sv,L,(2:Int),G],.slice SA sn sc,(1:Int)] W fun e w'=>e=.returned (.bool (zck p q'))∧Ext W w':=
  fun W hW=>zhf (i:=1) (a:=p) (q:=q') (st:=st) (us:=[a,p]) (h.ext hW) (h'.ext zbg.ok hW) hsn sM hq' hqp
 replace j:=za j;clear h h' hsn hq hqa hq' hqp;generalize zck a q=x at *;generalize zck p q'=y at *
 go_enter Tryz.func214,Tryz.ntmps214
 have d:Ext w (w.alloc (.cells #[.slice PA pn pc,.slice AA an ac,sv,L,(2:Int),G] 168)):=(dB w).alloc _;have c:=eX w 168 #[.slice PA pn pc,.slice AA an ac,sv,L,(2:Int),G];cases x
 all_goals
  go_upto_region 1 with fail
  generalize w.alloc _=o at *;have m:=c.cell;go_wp2_with (first
   |(go_at_call 267;with_reducible refine (g.out _ d).mono (mQ fun r f=>?_);have b:=d.trans f;have n:=(c.ext f).cell)
   |(go_at_call 267;with_reducible refine (j.out _ b).mono (mQ fun s l=>?_);have k:=b.trans l))
  go_ret;exact⟨zm sM,by first|exact k|exact b⟩
theorem ziW {L:Int}      (h:zeQ w PA pn AA an ss [p])(h':Lst zbg w lo hi SA st)(hsn:st.length=sn)(hq:st[pn]?=some q)(hqa:q<p.acc.length) :
  Calls Tryz.prog 214 #[.agg #[.slice PA pn pc,.slice AA an ac,sv,L,(3:Int),G],.slice SA sn sc,mv] w fun e w'=>e=.returned (.bool (!zck p q))∧Ext w w':=by
 have c:∀ W,Ext w W->Calls Tryz.prog 267 #[.agg #[.slice PA pn pc,.slice AA an ac,sv,L,(3:Int),G],.slice SA sn sc,(0:Int)] W fun e w'=>e=.returned (.bool (zck p q))∧Ext W w':=
  fun W hW=>zhf (i:=0) (a:=p) (q:=q) (st:=st) (us:=[p]) (h.ext hW) (h'.ext zbg.ok hW) hsn sM (by rw [Nat.add_zero];exact hq) hqa
 replace c:=za c;clear h h' hsn hq hqa;generalize zck p q=x at *
 go_enter Tryz.func214,Tryz.ntmps214
 go_upto_region 1 with fail
 generalize U0:w.alloc _=k at *;obtain⟨b,d⟩:=gX U0;clear U0;have j:=d.cell;go_wp2_with (go_at_call 267;with_reducible refine (c.out _ b).mono (mQ fun l g=>?_);have f:=b.trans g)
 go_ret;exact⟨zm sM,f⟩
theorem prodS_snoc (l:List Nat) (x:Nat):zah (l++[x])=zah l*x:=by rw [zcS];simp [zah]
theorem encF_zero (sz:List Nat):∀ n,encF 0 sz (eN n 0)=0:=by
 have a:∀ (sz:List Nat) (n:Nat),encF 0 sz (eN n 0)=0:=by
  intro sz
  induction sz with
  |nil=>intro n;cases n<;>rfl
  |cons s r ih =>
   intro n;cases n with
   |zero=>rfl
   |succ n=>rw [List.replicate_succ,encF,Nat.zero_mul,eS];exact ih n
 exact a sz
def ds0 (goal:Nat->Bool) (k:Nat):List Int:=(fE k).map fun x=>if goal x then 0 else -1
theorem ds0_get {goal:Nat->Bool}  (h:(ds0 goal k)[x]?=some v):v=if goal x then 0 else -1:=by
 unfold ds0 at h;rw [eL,hE] at h;obtain⟨y,b,c⟩:=h;have d:=(List.getElem?_eq_some_iff.1 b);obtain⟨f,a⟩:=d;rw [List.getElem_range] at a;subst a;exact c.symm
theorem zdJ {L:Nat}  {us:List Aut} {goal:Nat->Bool} (h:zeQ w PA pn AA an ss us)(hok:zdw ss us)(hS:Lst zbg w lo hi SA (eN n 0))(hn:(szs ss us).length=n)(hL:L<64)
  (HF:∀ W,Ext w W->∀ (x:Nat) (A:Option Addr) (l h c:Nat) (mv:Value),x<zD (zaW ss us)->Lst zbg W l h A (dec (szs ss us) x)->Calls Tryz.prog 214 #[.agg #[.slice PA pn pc,.slice AA an ac,.slice SA n sc,L,K,G],.slice A n c,mv] W fun e W'=>e=.returned (.bool (goal x))∧Ext W W') :
  Calls Tryz.prog 137 #[.agg #[.slice PA pn pc,.slice AA an ac,.slice SA n sc,L,K,G]] w (zK w (pnx (zaW ss us)) [0] goal (letters L 6)):=by
 obtain⟨w1,U0⟩:∃ x,Hid (w.alloc (.cells #[.slice PA pn pc,.slice AA an ac,.slice SA n sc,L,K,G] 168)=x):=⟨_,za rfl⟩;have bG:Ext w w1:=((dB w).alloc _).trans (Ext.eq_ U0.out);have bk:=Ext.bl_ U0.out;have HN:=za (fun W (hW:Ext w W)=>h.ext hW);have bY:=za (fun W (hW:Ext w W)=>hS.ext zbg.ok hW);have bV:=za HF;have be:=za hok;have Hn:=za hn;have da:n<=5:=by rw [← hn];exact hok.len
 have Hz:=za hok.le16;have bf:=za (fun k=>hok.total ((szs ss us).take k) (List.take_sublist _ _));have b6:Sm L:=tM;obtain⟨N,aK⟩:∃ N:Nat,Hid (zah (szs ss us)=N):=⟨_,rfl⟩;have b7:1<=N∧N<=1048576:=by rw [← aK.out];exact hok.total _ (List.Sublist.refl _)
 have bb:=za (show zD (zaW ss us)=N by unfold zD;rw [zfk];exact aK.out);obtain⟨c4,aJ⟩:=b7;have Hd:=za (show ∀ x l,x<N->l∈letters L 6->∀ y∈pnx (zaW ss us) x l,y<N from fun x l _ hl y hy=>by rw [← bb.out];exact zhW hok.ok (zB.1 hl).1 y hy);have O:=za (show Rise (letters L 6) from ⟨fun l hl=>(zB.1 hl).1,fun a b x y f hy hab=>by
  have:=List.pairwise_iff_getElem.1 (zhS L 6) a b (List.getElem?_eq_some_iff.1 f).1 (List.getElem?_eq_some_iff.1 hy).1 hab;rw [(List.getElem?_eq_some_iff.1 f).2,(List.getElem?_eq_some_iff.1 hy).2] at this;exact this⟩)
 clear h hok hS hn HF;generalize hdd:pnx (zaW ss us)=d at *;have bZ:=za hdd;clear hdd;generalize hLL:letters L 6=B at *;have aG:=za hLL;clear hLL
 go_enter Tryz.func137,Tryz.ntmps137
 go_upto_region 1 with fail
 rw [U0.out] at *;have c0:=bk.cell;go_upto_region 2 with (go_at_call 212;go_loud (refine (spec_l4Sizes (HN.out _ bG) be.out).mono ?_);rintro e w2 ⟨Az,cz,rfl,a2,S⟩)
 rw [Hn.out] at a2;rw [Hn.out];have ar:=za (fun W (hW:Ext w2 W)=>(Lst.ah (xs:=szs ss us) (c:=cz) (A:=Az) (by rw [Hn.out];exact a2)).ext zbg.ok hW);have bH:=bG.trans S;have bn:=bk.ext S;clear a2 c0;go_wp2_with fail
 go_loopw [5,6] (fun v i wr=>∃ k y:Nat,i=.int .i64 k∧v=.int .i64 y∧k<=n∧y<=1048576∧Hid (y=zah ((szs ss us).take k))∧wr=w2) (fun _ i _=>n - (intOf i).toNat)
 case atStart=>exact⟨0,1,rfl,rfl,eD _,oM,rfl,rfl⟩
 case round =>
  obtain⟨k,y,rfl,rfl,hk,hy,a1,rfl⟩:=hrel
  by_cases hlt:k<n
  ·obtain⟨bz,oz,z,rfl,_,_,hz,hc⟩:=(ar.out _ (dB _)).num (show k<(szs ss us).length by rw [Hn.out];exact hlt);have t:=za (show y*z=zah ((szs ss us).take (k+1)) by rw [eH,hz.out,e7,prodS_snoc,a1.out]);have bw:y*z<=1048576:=by rw [t.out];exact (bf.out (k+1)).2
   obtain⟨yz,bN⟩:∃ q:Nat,Hid (y*z=q):=⟨_,rfl⟩;have cD:(y:Int)*(z:Int)=(yz:Int):=by rw [← bN.out];exact (gK y z).symm
   rw [bN.out] at bw t;go_wp2_with fail
   go_roundw
   case rel=>exact⟨k+1,yz,gM,gM,oM,bw,t,by first|rfl|trivial⟩
   case measure=>simp [intOf];omega
  ·obtain rfl:n=k:=oM;obtain rfl:y=N:=by rw [a1.out,eE (by rw [Hn.out];exact eA _)];exact aK.out
   clear a1 hy;have c0:=bn.cell;have ba:=za (show Calls Tryz.prog 213 #[.agg #[.slice PA pn pc,.slice AA an ac,.slice SA n sc,L,K,G],.slice Az n cz,.int .i64 (y:Nat)] wr (RetMv wr (mvs d B y)) from by
    have:=spec_l4Moves (pc:=pc) (ac:=ac) (sv:=.slice SA n sc) (K:=K) (G:=G) (N:=y) (sc:=cz) (HN.out _ bH) be.out (ar.out _ (dB _)) Hn.out hL aJ;rw [bZ.out,aG.out] at this;exact this)
   go_upto_region 8 with (go_at_call 213;refine ba.out.mono ?_;rintro e w3 ⟨Am,cm,rfl,bx,ax⟩)
   rw [zdn];have bI:=bH.trans ax;have aL:=bn.ext ax;have HM:=za (fun W (hW:Ext w3 W)=>bx.ext P3.ok hW);clear bx ba c0;go_upto_region 9 with (at_make;refine zas w3 w3 rfl _ _ 128 rfl 3 _ 1 8 Tryz.underlying128 zai _ _ y rfl rfl (dB _) oM lM ?_;intro w4 hw34 hown4 hx34 hsz4)
   have D:w4.ownsRow w3.heap.size 3 1 (.slice (some w3.heap.size) y y) y (ints (ds0 goal 0++eN y 0)):=by simpa [ints,ds0,Value.cells,toList_madeCells_one] using hown4
   clear hown4;obtain⟨gd,aO⟩:∃ gd,Hid (w3.heap.size=gd):=⟨_,rfl⟩;rw [aO.out] at D;rw [aO.out];clear hx34 hsz4;have aj:w3.heap.size<=gd:=oH aO.out;go_wp2_with fail
   go_loopw [9] (fun i wr=>∃ k:Nat,i=.int .i64 k∧k<=y∧wr.ownsRow gd 3 1 (.slice (some gd) y y) y (ints (ds0 goal k++eN (y - k) 0))∧Ext w3 wr) (fun i _=>y - (intOf i).toNat)
   case atStart=>exact⟨0,rfl,eD _,D,hw34⟩
   case round =>
    clear D hw34;obtain⟨k,rfl,hk,M,f⟩:=hrel
    by_cases hlt:k<y
    ·obtain⟨o0,g0⟩:=zab M k oM;have f0:=M.frozenAt k;have R:=M.stored k (.int .i64 (-1));have bE:k<(ints (ds0 goal k++eN (y - k) 0)).length:=by rw [zcW M];omega
     have E:(ints (ds0 goal k++eN (y - k) 0)).set k (.int .i64 (-1))=ints (ds0 goal k++(-1) :: eN (y - k - 1) 0):=by
      rw [ints,ints,← jO]
      congr 1
      rw [fL _ _ (by simp [ds0]),show (ds0 goal k).length=k by simp [ds0],fO];obtain⟨m,hm⟩:∃ m,y - k=m+1:=⟨y - k - 1,oM⟩;rw [hm];rfl
     rw [E] at R;have bQ:=R.1;have ak:Ext w3 (wr.setCell ⟨gd,k,none⟩ (.int .i64 (-1))):=f.setCell (p:=⟨gd,k,none⟩) aj _;clear R E M;go_upto_region 13 with fail
     clear g0 f0;have cQ:=za bE;clear bE;generalize wr.setCell ⟨gd,k,none⟩ (.int .i64 (-1))=w5 at *;obtain⟨bm,om,v,cj,rfl,_,_,_,br,Ar,cr,rfl,_⟩:=(HM.out w5 ak).get (show k<(mvs d B y).length by rw [zdn];exact hlt);have cf:=bI.trans ak;have CB:∀ W,Ext w5 W->∀ j,W.cell? ⟨w.heap.size,j,none⟩=#[Value.slice PA pn pc,.slice AA an ac,.slice SA n sc,.int .i64 L,.int .i64 K,.int .i64 G][j]?:=fun W hW=>((aL.ext ak).ext hW).cell;have CM:∀ W,Ext w5 W->W.cell? ⟨bm,om+k,none⟩=some (.slice Ar cj.length cr):=fun W hW=>hW.aa br;have CD:=za (fun W (hW:Ext w5 W)=>zfv (c:=cz) (y0:=k) (ar.out W ((ax.trans ak).trans hW)) Hn.out oM Hz.out oM);have c7:(k:Int)<(y:Int):=oM;have aX:=dB w5;clear br;refine uR (fun X=>Ext w5 X) [8] (zu.of [0,1,2,4,5,6,7,3,8]) ?_;refine uQ ?_;refine ze fun K hK=>?_;go_simp;refine (CD.out _ aX.drew).mono ?_;rintro e w6 ⟨A6,c6,rfl,s,F⟩;have aQ:(dec (szs ss us) k).length=n:=by rw [zdf];exact Hn.out
     have bh:=Lst.ah s;rw [aQ];have Y:=aX.drew.trans F;refine hK.out _ _ Y ?_;refine pT ?_;refine uQ ?_;have a7:=za (fun mv=>bV.out w6 (cf.trans Y) k A6 _ _ c6 mv (by rw [bb.out];exact hlt) bh);have U:=zg bQ Y;have aE:=ak.trans Y;clear CD CB CM aX s bh F bQ;cases hgk:goal k
     ·have ab:=za hgk;clear hgk;refine zb fun K hK=>?_;go_simp;refine (a7.out _).mono ?_;rw [ab.out];rintro e w7 ⟨rfl,I⟩;refine hK.out _ _ ?_;refine pT ?_;refine uQ ?_;refine zf ?_;have ay:=zg U I;rw [show ds0 goal k++(-1) :: eN (y - k - 1) 0=ds0 goal (k+1)++eN (y - (k+1)) 0 by
       rw [ds0,ds0,iB,fB];simp [ab.out,Nat.sub_sub]] at ay
      go_wp2_with fail
      go_roundw
      case rel=>exact⟨k+1,gM,oM,ay,aE.trans I⟩
      case measure=>simp [intOf];omega
     ·have ab:=za hgk;clear hgk;refine zb fun K hK=>?_;go_simp;refine (a7.out _).mono ?_;rw [ab.out];rintro e w7 ⟨rfl,I⟩;refine hK.out _ _ ?_;refine pT ?_;refine uQ ?_;refine zf ?_;have Q:=zg U I;have bL:=aE.trans I;obtain⟨o1,g1⟩:=zab Q k oM;have f1:=Q.frozenAt k;have R:=Q.stored k (.int .i64 0);have E:(ints (ds0 goal k++(-1) :: eN (y - k - 1) 0)).set k (.int .i64 0)=ints (ds0 goal (k+1)++eN (y - (k+1)) 0):=by
       rw [ints,ints,← jO]
       congr 1
       rw [fL _ _ (by simp [ds0]),show (ds0 goal k).length=k by simp [ds0],fO,ds0,ds0,iB,fB];simp [ab.out,Nat.sub_sub]
      rw [E] at R;have ay:=R.1;have bM:Ext w3 (w7.setCell ⟨gd,k,none⟩ (0:Int)):=bL.setCell (p:=⟨gd,k,none⟩) aj _;clear R E;go_wp2_with fail
      go_roundw
      case rel=>exact⟨k+1,gM,oM,ay,bM⟩
      case measure=>simp [intOf];omega
    ·obtain rfl:y=k:=oM;rw [fO,List.replicate_zero,List.append_nil] at M;have b4:=za (zbu.init (d:=d) (L:=B) (goal:=goal) (N:=y) (ds:=ds0 goal y) (by simp [ds0]) (fun x v hv=>ds0_get hv));have af:=za (spec_l4Dist (c:=cm) (cap:=y) (d:=d) (L:=B) (goal:=goal) (HM.out wr f) (Or.inr aj) M b4.out aJ Hd.out);clear M;go_upto_region 16 with (go_at_call 216;refine af.out.mono ?_;rintro e w6 ⟨rfl,ds,C,s,aB⟩)
     have F:Ext w3 w6:=f.frm aB (fun k hk e=>oM);clear af f aB;have HD:=za (fun W (hW:Ext w6 W)=>(Lst.av (xs:=ds) (A:=some ⟨gd,0,none⟩) (by rw [C.out.1];exact eY s)).ext IntP.ok hW);have bs:Hid (ds.length=y):=C.out.1;clear s;have aW:=bI.trans F;have c6:=(aL.ext F).cell;have HE:=za (show Calls Tryz.prog 217 #[.slice Az n cz,.slice SA n sc] w6 fun e w'=>e=.returned (.int .i64 0)∧Ext w6 w' from by
      have:=ziU (c:=cz) (d:=sc) (ar.out w6 (ax.trans F)) (bY.out w6 aW) (by rw [jR];exact Hn.out) (fun k _=>by rw [List.take_replicate,encF_zero];omega) (fun x f=>(Hz.out x f).2) (fun x f=>by rw [(List.mem_replicate.1 f).2];omega);rw [Hn.out,jR,encF_zero] at this;exact this)
     go_upto_region 17 with (go_at_call 217;refine HE.out.mono (mQ fun w7 I=>?_))
     have al:=I.alloc (.cells #[(0:Int)] 3);have bo:=eX w7 3 #[(0:Int)];have az:Lst zbg (w7.alloc (.cells #[(0:Int)] 3)) w7.heap.size (w7.alloc (.cells #[(0:Int)] 3)).heap.size (some ⟨w7.heap.size,0,none⟩) [0]:=Lst.aw ⟨rfl,sM,fun _=>⟨_,rfl,eA _,sM,fun j u hu=>by
      rw [zaI,eS,bo.cell];cases j with
      |zero=>simpa [zU] using hu
      |succ j=>simp [zU] at hu⟩⟩
     clear I bo HE c6;generalize hga:w7.heap.size=ga at *;clear hga;generalize w7.alloc _=w8 at *;have c8:=(aL.ext (F.trans al)).cell;have a9:=za (show Calls Tryz.prog 131 #[.int .i64 (L:Nat)] w8 (zbI w8 B) from by
      have:=zaG L b6 w8;rw [aG.out] at this;exact this)
     go_upto_region 18 with (go_at_call 131;refine a9.out.mono ?_;rintro e w9 ⟨AL,cL,rfl,ah,a0⟩)
     have H:=al.trans a0;have HL:=za (fun W (hW:Ext w9 W)=>(Lst.ah ah).ext zbg.ok hW);have ae:=az.ext zbg.ok a0;clear ah az c8 a9 a0 al;obtain⟨bd,od,v0,hA,_,_,bF,bp⟩:=(HD.out w9 H).int (show 0<ds.length by rw [bs.out];omega);obtain⟨rfl,rfl⟩:gd=bd∧0=od:=by injection hA with e;injection e with e1 e2;exact⟨e1,e2⟩
     rw [eS] at bp;have bq:=ae.num2 (k:=0) (x:=0) rfl;rw [eS] at bq;clear hA;rcases C.out.2 0 v0 bF.out with ⟨rfl,cb⟩|⟨r0,rfl,hM⟩
     ·have ai:=za (show zK w d [0] goal B (.returned (.tuple #[ByteArray.empty,.bool false])) w9 from ⟨aW.trans H,Or.inr ⟨rfl,lost_of cb⟩⟩);go_wp2_with fail
      go_loopw [10,12,13,14,15] (fun _ o v _ _ wr=>o=.string ByteArray.empty∧v=.int .i64 (-1)∧wr=w9) (fun _ _ _ _ _ _=>0)
      case atStart=>exact⟨rfl,rfl,rfl⟩
      case round =>
       obtain⟨rfl,rfl,rfl⟩:=hrel;go_wp2;go_ret2;exact ai.out
     ·have dc:=hM.lt oM Hd.out;have HG:=za (zdE.begin_ hM);clear hM;go_wp2_with fail
      go_loopw [10,12,13,14,15] (fun a o v _ _ wr=>∃ (r:Nat) (g Z:List Nat) (A:Option Addr) (c lo hi:Nat),a=.slice A g.length c∧o=.string (wstr Z)∧v=.int .i64 (r:Nat)∧Hid (zdE d B goal [0] g Z r)∧Lst zbg wr lo hi A g∧Z.length+r=r0∧Ext w9 wr) (fun _ _ v _ _ _=>(intOf v).toNat)
      case atStart=>exact⟨r0,[0],[],_,_,_,_,rfl,rfl,rfl,HG,ae,sM,dB _⟩
      case round =>
       clear HG ae bq bp bF;obtain⟨r,g,Z,Aa,ca,la,ha,rfl,rfl,rfl,hG,b8,cA,f⟩:=hrel;have h6:=za (fun l hl=>O.out.1 l hl);have cg:=zhq Z
       by_cases hr:0<r
       ·obtain⟨q,rfl⟩:∃ q,r=q+1:=⟨r - 1,oM⟩;obtain⟨K0,l0,av,x0,n0,aV,aY,bj⟩:=hG.out.exists_;have cx:=(List.getElem?_eq_some_iff.1 av).1;have aA:=za (fun n (hn:n∈g)=>(goes_congr (d:=d) (d':=d) (L:=B) (start:=[0]) (N:=y) (fun x f=>by simp at f;omega) (fun x l f hl=>⟨fun _=>Iff.rfl,Hd.out x l f hl⟩) hG.out.letters).2 (hG.out.goes n hn).1);have V:=za (fun (n:Nat) (hn:n∈g) (l:Nat) (hl:l∈B) (x:Nat) (f:x∈d n l)=>C.out.val (n:=q) (Hd.out n l (aA.out n hn) hl x f));have bW:=za (show ∃ n∈g,x0∈d n l0∧ds[x0]?=some (q:Int) from ⟨n0,aV,aY,(V.out n0 aV l0 (eB av) x0 aY).2 bj⟩);have a8:=za av;clear av aY bj aV;have c3:B.length<=6:=by rw [← aG.out];exact zJ L 6
        have CC:=za (fun W (hW:Ext wr W) (k l:Nat) (hl:B[k]?=some l)=>ziT (c:=cm) (c':=y) (c2:=ca) (r:=(q:Int)) (HM.out W (F.trans ((H.trans f).trans hW))) (HD.out W ((H.trans f).trans hW)) (b8.ext zbg.ok hW) rfl aA.out hl bs.out aJ Hd.out);obtain⟨l1,bt⟩:∃ l1,Hid (B[0]?=some l1):=⟨_,za (dC oM)⟩;have cc:((q+1:Nat):Int) - 1=(q:Int):=oM;go_upto_region 24 with (go_at_call 218;refine (CC.out wr (dB _) 0 l1 bt.out).mono ?_;rintro e dj ⟨nx,⟨cI,cT,rfl,T,aC⟩,bB⟩)
        have ag:=Lst.ah T;clear T;go_wp2_with fail
        go_loopw [14,15] (fun k v wr2=>∃ (J l:Nat) (nx:List Nat) (A:Option Addr) (c lo hi:Nat),k=.int .i64 J∧v=.slice A nx.length c∧Lst zbg wr2 lo hi A nx∧J<=K0∧Hid (B[J]?=some l∧(∀ x,x∈nx↔∃ n∈g,x∈d n l∧ds[x]?=some (q:Int))∧∀ (j m:Nat),j<J->B[j]?=some m->∀ n∈g,∀ x∈d n m,ds[x]?≠some (q:Int))∧Ext wr wr2) (fun k _ _=>B.length - (intOf k).toNat)
        case atStart=>exact⟨0,l1,nx,_,_,_,_,rfl,rfl,ag,eD _,(show Hid _ from ⟨bt.out,bB.out.2,fun j m hj=>oM⟩),aC⟩
        case round =>
         clear ag bB aC;obtain⟨J,l,nx,An,cn,ln,db,rfl,rfl,bA,c9,t,S⟩:=hrel;have cB:=bA.len
         by_cases hz0:nx.length=0
         ·have c5:J<K0:=by
           rcases Nat.lt_or_ge J K0 with h1|h1
           ·exact h1
           ·exfalso;obtain rfl:J=K0:=oM;obtain⟨n,h2,h3,h4⟩:=bW.out;have h5:=t.out.1;rw [a8.out] at h5;obtain rfl:=Option.some.inj h5;have:=(t.out.2.1 x0).2 ⟨n,h2,h3,h4⟩;rw [eK hz0] at this;cases this
          obtain⟨l2,bu⟩:∃ l2,Hid (B[J+1]?=some l2):=⟨_,za (dC oM)⟩;have ch:((nx.length:Int)==0)=true:=by simp [hz0]
          have aN:=za (CC.out _ S (J+1) l2 bu.out);have b9:((J+1:Nat):Int)=(J:Int)+1:=oM;rw [b9] at aN;go_upto_region 26 with fail
          go_wp2_with (go_at_call 218;refine aN.out.mono ?_;rintro e dk ⟨bO,⟨cJ,cU,rfl,aw,bJ⟩,bC⟩)
          have bD:=za (show B[J+1]?=some l2∧(∀ x,x∈bO↔∃ n∈g,x∈d n l2∧ds[x]?=some (q:Int))∧∀ (j m:Nat),j<J+1->B[j]?=some m->∀ n∈g,∀ x∈d n m,ds[x]?≠some (q:Int) from ⟨bu.out,bC.out.2,fun j m hj hm n hn x f=>by
           by_cases e:j=J
           ·subst e;have h5:=t.out.1;rw [hm] at h5;obtain rfl:=Option.some.inj h5;intro h6;have:=(t.out.2.1 x).2 ⟨n,hn,f,h6⟩;rw [eK hz0] at this;cases this
           ·exact t.out.2.2 j m oM hm n hn x f⟩)
          have aS:=Lst.ah aw;have aZ:=S.trans bJ;go_roundw
          case rel=>exact⟨J+1,l2,bO,_,_,_,_,gM,rfl,aS,oM,bD,aZ⟩
          case measure=>simp [intOf];omega
         ·have ch:((nx.length:Int)==0)=false:=by rw [beq_eq_false_iff_ne];omega
          have b5:=za (show zdE d B goal [0] nx (Z++[l]) q from by
           obtain⟨h1,h2,h3⟩:=t.out;refine hG.out.step O.out h1 (fun x=>?_) (fun e=>hz0 (by rw [e];rfl)) (fun j m hj hm n hn x f=>?_)
           ·rw [h2 x];constructor
            ·rintro ⟨n,h4,h5,h6⟩;exact⟨n,h4,h5,(V.out n h4 l (eB h1) x h5).1 h6⟩
            ·rintro ⟨n,h4,h5,h6⟩;exact⟨n,h4,h5,(V.out n h4 l (eB h1) x h5).2 h6⟩
           ·intro hM;exact h3 j m hj hm n hn x f ((V.out n hn m (eB hm) x f).2 hM))
          obtain⟨bl,ol,l',rfl,_,_,aP,aN⟩:=(HL.out _ (f.trans S)).num (show J<B.length by omega);obtain rfl:l=l':=by have h1:=aP.out;rw [t.out.1] at h1;exact Option.some.inj h1
          have aQ:=h6.out l (eB aP.out);have cC:(wstr Z).size+(strOfNums [((97+l:Nat):Int)]).size<=9223372036854775807:=by rw [cg,size_one];omega
          have ce:¬ 9223372036854775807<Z.length+1:=oM;have c1:=size_one ((97+l:Nat):Int);have cd:=za (wstr_snoc Z l);have aR:(Z++[l]).length+q=r0:=by rw [eO,eZ];omega
          clear aP;go_wp2_with (go_at_call 135;refine (zey aQ).mono (mQ fun dl aD=>?_))
          have bK:=(f.trans S).trans aD;have aT:=bA.ext zbg.ok aD;go_roundw
          case rel=>exact⟨q,nx,Z++[l],_,_,_,_,rfl,by rw [cd.out,Int.natCast_add];rfl,by first|rfl|rw [cc],b5,aT,aR,bK⟩
          case measure=>simp [intOf]
       ·obtain rfl:r=0:=oM;have ai:=za (show zK w d [0] goal B (.returned (.tuple #[.string (wstr Z),.bool true])) wr from ⟨aW.trans (H.trans f),Or.inl ⟨Z,rfl,hG.out.fin O.out.1⟩⟩);go_wp2;go_ret2;exact ai.out
theorem info_row6:(Tryz.prog.info? 179).map (fun i=>(i.zero,i.size,i.bytes))=some (some (.agg (Array.replicate 6 (.int .i64 0))),6,48):=kM
theorem row6_len:(Value.agg (Array.replicate 6 (.int .i64 0))).cells.size=6:=dM
theorem zgO {a:Nat}(hb:a.testBit l=true):∀ n,l<n->(letters a n)[place a l]?=some l:=by
 intro n
 induction n with
 |zero=>intro h;omega
 |succ n ih =>
  intro h;rw [zbc]
  by_cases e:n=l
  ·subst e;rw [List.getElem?_append_right (by exact eA _)];simp [place,hb]
  ·have b:=ih oM;rw [List.getElem?_append_left (List.getElem?_eq_some_iff.1 b).1];exact b
theorem ziE {a:Nat}(h:(letters a n)[k]?=some l):place a l=k:=by
 have f:=zB.1 (eB h);have i:=zgO f.2 n f.1;have g:=List.pairwise_iff_getElem.1 (show (letters a n).Pairwise (·<·) from List.Pairwise.filter _ List.pairwise_lt_range);obtain⟨c,j⟩:=List.getElem?_eq_some_iff.1 h;obtain⟨d,m⟩:=List.getElem?_eq_some_iff.1 i;rcases fY (place a l) k with b|b|b
 ·have:=g _ _ d c b;omega
 ·exact b
 ·have:=g _ _ c d b;omega
def tbC (n:Nat) (f:Nat->Nat->Nat):List Value:=zU ((fE (n*6)).map fun i=>f (i / 6) (i % 6))
theorem tbC_set {v:Nat} {f g:Nat->Nat->Nat}(hq:q<n)(hl:l<6)(h:∀ a b,a<n->b<6->g a b=if a=q∧b=l then v else f a b):(tbC n f).set (q*6+l) (.int .i64 (v:Nat))=tbC n g:=by
 unfold tbC zU;rw [gZ,gZ];refine List.ext_getElem? fun i=>?_;rw [List.getElem?_set];simp only [eQ,List.length_range,eL]
 by_cases hi:i<n*6
 ·rw [gB hi];simp only [iK,Function.comp];rw [h (i / 6) (i % 6) oM oM]
  by_cases e:q*6+l=i
  ·rw [if_pos e,if_pos oM,if_pos ⟨oM,oM⟩]
  ·rw [if_neg e,if_neg oM]
 ·rw [List.getElem?_eq_none (l:=fE (n*6)) (by simp;omega)]
  by_cases e:q*6+l=i
  ·omega
  ·rw [if_neg e];rfl
theorem tbC_get {f:Nat->Nat->Nat}(hq:q<n)(hl:l<6):(tbC n f)[q*6+l]?=some (.int .i64 (f q l:Nat)):=by
 unfold tbC zU;rw [eL,eL,gB oM];simp only [iK];rw [show (q*6+l) / 6=q by omega,show (q*6+l) % 6=l by omega]
theorem tbC_congr {f g:Nat->Nat->Nat}(h:∀ a b,a<n->b<6->f a b=g a b):tbC n f=tbC n g:=by
 unfold tbC
 congr 1
 refine jE fun i hi=>?_;rw [List.mem_range] at hi;exact h _ _ oM oM
theorem tb_made (n:Nat):(madeCells (Value.agg (Array.replicate 6 (.int .i64 0))).cells (n*6)).toList=tbC n (fun _ _=>0):=by
 unfold madeCells tbC zU;simp only [Value.cells,Array.toList_map,Array.toList_range,gZ];refine jE fun i _=>?_;simp only [Function.comp,Array.size_replicate];rw [getElem!_pos _ _ (by simp;omega),Array.getElem_replicate];rfl
def TbAt (w:World) (lo hi:Nat) (A:Option Addr) (a:Aut):Prop:=Reads w lo hi 6 A a.next.length (tbC a.next.length (aGo a))
theorem TbAt.ext (h:TbAt w lo hi A a)(hx:Ext w w'):TbAt w' lo hi A a:=Reads.ext h hx
theorem TbAt.at_ (h:TbAt w lo hi A a)(hq:q<a.next.length)(hl:l<6):∃ g o,A=some ⟨g,o,none⟩∧w.cell? ⟨g,o+q*6+l,none⟩=some (.int .i64 (aGo a q l:Nat)):=by
 obtain⟨b,e,_,_,d⟩:=Reads.at_ h hq;have i:=d (0*6+0) _ (tbC_get oM oM);have f:=zeW i;have c:=d (q*6+l) _ (tbC_get hq hl);rw [f,zaI,← Nat.add_assoc] at c;exact⟨b.block,b.off,by rw [e,← f],c⟩
def TbO (w:World) (A:Option Addr) (c:Nat) (a:Aut):Prop:=∃ base,w.ownsRow base 179 6 (.slice A a.next.length c) a.next.length (tbC a.next.length (aGo a))
theorem TbO.at_ (h:TbO w A c a):∃ lo hi,TbAt w lo hi A a:=by
 obtain⟨b,h⟩:=h;exact⟨_,_,eY h⟩
theorem TbO.ext (h:TbO w A c a)(hx:Ext w w'):TbO w' A c a:=by
 obtain⟨b,h⟩:=h;exact⟨b,zg h hx⟩
theorem TbO.set {g:Nat}   {cs:Array Value} {t:TypeId}(h:TbO w A c a)(hg:Blk w g t cs)(ht:179≠t) (v:Value):TbO (w.setCell g v) A c a:=by
 obtain⟨d,h⟩:=h;exact⟨d,zh h (eC w g 0 v) (fun b hb e=>by
  subst e;rcases h.2 with ⟨f,_⟩|⟨k,i,j,f,_,l,_⟩
  ·rw [f] at hb;simp [Value.ownBlock] at hb
  ·rw [f] at hb;have:k=b:=by simpa [Value.ownBlock] using hb
   subst this;unfold Blk at hg;rw [l] at hg;injection hg with hg
   injection hg with _ h2
   exact ht h2)⟩
def RetTb (w:World) (a:Aut) (e:Ending) (w':World):Prop:=∃ A c,e=.returned (.slice A a.next.length c)∧TbO w' A c a∧Ext w w'
def RetTb2 (w:World) (a:Aut) (e:Ending) (w':World):Prop:=∃ A c,e=.returned (.slice A a.next.length c)∧(∃ base,w.heap.size<=base∧w'.ownsRow base 179 6 (.slice A a.next.length c) a.next.length (tbC a.next.length (aGo a)))∧Ext w w'
theorem zbM (h:zC w lo hi B m B' m' a)(hv:zj a=true) :
  Calls Tryz.prog 151 #[.agg #[a.al,.slice B m d,.slice B' m' d']] w (RetTb2 w a):=by
 obtain⟨⟨aC,aD⟩,⟨n1,ar⟩,_,G⟩:=zk hv;obtain⟨al,O⟩:∃ al:Nat,Hid (a.al=al):=⟨a.al.toNat,by unfold Hid;omega⟩;have aI:Sm al:=by have:=O.out;unfold Sm;omega
 have M:=za (show a.al.toNat=al by have:=O.out;omega);have Hn:=za h.n1;have HN:=za (fun W (hW:Ext w W)=>h.1.ext hW);have ae:=za G;have aN:m<=12:=by rw [h.n1];exact ar
 have aX:=zJ al 6;clear G h n1 ar hv;rw [O.out];clear aC aD
 go_enter Tryz.func151,Tryz.ntmps151
 go_upto_region 1 with fail
 generalize U0:w.alloc _=f at *;obtain⟨T,Q⟩:=gX U0;clear U0;have c1:=Q.cell;go_upto_region 2 with (at_make;refine zas f f rfl _ _ 177 rfl 179 _ 6 48 Tryz.underlying177 info_row6 _ _ m rfl rfl (dB _) oM lM ?_;intro w2 hx12 zjm hx2 hsz2)
 rw [tb_made] at zjm;have c2:=(Q.ext hx12).cell;clear hx2 hsz2;go_upto_region 3 with (go_at_call 158;refine (zaa al aI _).mono ?_;rintro e w3 ⟨AL,cL,rfl,E,ap⟩)
 have L:=hx12.trans ap;have aw:=zg zjm ap;have c:=Lst.ah E;have aJ:=hx12.size;have c3:=(Q.ext L).cell;have aV:f.heap.size<w2.heap.size:=by
  have:=(zjm.lt f.heap.size rfl).2;exact this
 clear E c2 zjm;generalize hlq:letters al 6=u at *;have z:=za hlq;clear hlq;go_wp2_with fail
 go_loopw [5,6,7,8,9,20] (fun _ _ _ _ _ i wr=>∃ (q:Nat) (F:Nat->Nat->Nat),i=.int .i64 q∧q<=m∧Hid (∀ x y,x<q->y<6->F x y=aGo a x y)∧wr.ownsRow f.heap.size 179 6 (.slice (some f.heap.size) m m) m (tbC m F)∧Ext f wr∧Lst zbg wr w2.heap.size w3.heap.size AL u) (fun _ _ _ _ _ i _=>m - (intOf i).toNat)
 case atStart=>exact⟨0,_,rfl,eD _,(show Hid _ from fun x y h=>oM),aw,L,c⟩
 case round =>
  clear aw c c3;obtain⟨q,F,rfl,hq,o,b,t,c⟩:=hrel
  by_cases hlt:q<m
  ·obtain⟨ad,Ak,ck,row,rfl,_,_,J,ag,am⟩:=(HN.out f T).row hlt;obtain⟨S,ak⟩:=ae.out q row J.out;rw [M.out,z.out] at S;have az:=za ak;have ab:=za S;have aA:=za (fun W (hW:Ext f W)=>am.ext hW);have ah:=t.aa ag;clear am ak ag S;go_wp2_with fail
   go_loopw [7,25] (fun _ i wr=>∃ (l:Nat) (F:Nat->Nat->Nat),i=.int .i64 l∧l<=6∧Hid ((∀ x y,x<q->y<6->F x y=aGo a x y)∧∀ y,y<l->F q y=q)∧wr.ownsRow f.heap.size 179 6 (.slice (some f.heap.size) m m) m (tbC m F)∧Ext f wr∧Lst zbg wr w2.heap.size w3.heap.size AL u) (fun _ i _=>6 - (intOf i).toNat)
   case atStart=>exact⟨0,F,rfl,eD _,(show Hid _ from ⟨o.out,fun y h=>oM⟩),b,t,c⟩
   case round =>
    clear b t c o ah;obtain⟨l,F,rfl,hl,o,b,t,c⟩:=hrel
    by_cases R:l<6
    ·obtain⟨o0,g0⟩:=zab b (q*6+l) oM;have f0:=b.frozenAt (q*6+l);have s:=b.stored (q*6+l) (.int .i64 (q:Nat));rw [tbC_set (g:=fun x y=>if x=q∧y=l then q else F x y) hlt R (fun _ _ _ _=>rfl)] at s;have r:=s.1;have V:Ext f (wr.setCell ⟨f.heap.size,q*6+l,none⟩ (.int .i64 (q:Nat))):=t.setCell (p:=⟨f.heap.size,q*6+l,none⟩) (eA _) _;have D:Lst zbg (wr.setCell ⟨f.heap.size,q*6+l,none⟩ (.int .i64 (q:Nat))) w2.heap.size w3.heap.size AL u:=c.frm zbg.ok (eC wr f.heap.size (q*6+l) _) (fun k H h2 e=>oM);have C:=za (show (∀ x y,x<q->y<6->(if x=q∧y=l then q else F x y)=aGo a x y)∧∀ y,y<l+1->(if q=q∧y=l then q else F q y)=q from ⟨fun x y H h2=>by rw [if_neg oM];exact o.out.1 x y H h2,fun y h=>by
      by_cases e:y=l
      ·rw [if_pos ⟨rfl,e⟩]
      ·rw [if_neg oM];exact o.out.2 y oM⟩)
     clear s b c t;go_wp2_with fail
     go_roundw
     case rel=>exact⟨l+1,_,gM,oM,C,r,V,D⟩
     case measure=>simp [intOf];omega
    ·have aj:=za (show 6<=l by omega);go_wp2_with fail
     go_loopw [8,9,37] (fun _ _ i wr=>∃ (k:Nat) (F:Nat->Nat->Nat),i=.int .i64 k∧k<=u.length∧Hid ((∀ x y,x<q->y<6->F x y=aGo a x y)∧(∀ (j y:Nat),j<k->u[j]?=some y->F q y=aGo a q y)∧∀ y,y<6->(∀ j,j<k->u[j]?≠some y)->F q y=q)∧wr.ownsRow f.heap.size 179 6 (.slice (some f.heap.size) m m) m (tbC m F)∧Ext f wr∧Lst zbg wr w2.heap.size w3.heap.size AL u) (fun _ _ i _=>u.length - (intOf i).toNat)
     case atStart=>exact⟨0,F,rfl,eD _,(show Hid _ from ⟨o.out.1,fun j y h=>oM,fun y h _=>o.out.2 y (oH aj.out)⟩),b,t,c⟩
     case round =>
      clear b t c o;obtain⟨k,F,rfl,hk,o,b,t,c⟩:=hrel
      by_cases hkl:k<u.length
      ·obtain⟨bl,ol,l,rfl,_,_,hl,aU⟩:=c.num hkl;have R:l<6:=by
        have:=eB hl.out;rw [← z.out] at this;exact (zB.1 this).1
       have aH:=za (ziE (a:=al) (n:=6) (k:=k) (l:=l) (by rw [z.out];exact hl.out));have af:=za (show al.testBit l=true from by
        have:=eB hl.out;rw [← z.out] at this;exact (zB.1 this).2)
       obtain⟨aB,x,rfl,_,_,aq,ai⟩:=(aA.out wr t).int (show k<row.length by have:=ab.out;omega);obtain⟨x0,x1⟩:=az.out x (eB aq.out);obtain⟨v,rfl⟩:∃ v:Nat,x=v:=⟨x.toNat,oM⟩;have hv:=za (show aGo a q l=v by
        unfold aGo;rw [M.out,af.out,if_pos rfl,aH.out];simp only [eF,J.out,Option.getD_some,aq.out];rfl)
       obtain⟨o0,g0⟩:=zab b (q*6+l) oM;have f0:=b.frozenAt (q*6+l);have U:=dB wr;have CX:∀ W,Ext wr W->W.cell? (aB.add k)=some (.int .i64 (v:Nat)):=fun W hW=>hW.aa ai;have aW:(k:Int)<(row.length:Int):=oH ab.out;have aY:(q:Int)<(m:Int):=oM;have aL:(l:Int)<6:=oM;clear ai;go_upto_region 14 with fail
       refine uR (fun X=>Ext wr X) [9] (zu.of [0,1,2,3,4,5,6,7,8,9]) ?_;refine uQ ?_;have g1:wr.drew.cell? ⟨f.heap.size,q*6+l,none⟩=some o0:=g0;have f1:wr.drew.frozen? ⟨f.heap.size,q*6+l,none⟩=false:=f0;have av:wr.drew.ownsRow f.heap.size 179 6 (.slice (some f.heap.size) m m) m (tbC m F):=zg b U.drew;have ao:=t.drew;have I:=c.ext zbg.ok U.drew;clear CX g0 f0 b t c U;generalize wr.drew=wd at *;have s:=av.stored (q*6+l) (.int .i64 (v:Nat));have V:Ext f (wd.setCell ⟨f.heap.size,q*6+l,none⟩ (.int .i64 (v:Nat))):=ao.setCell (p:=⟨f.heap.size,q*6+l,none⟩) (eA _) _;have D:Lst zbg (wd.setCell ⟨f.heap.size,q*6+l,none⟩ (.int .i64 (v:Nat))) w2.heap.size w3.heap.size (some ⟨bl,ol,none⟩) u:=I.frm zbg.ok (eC wd f.heap.size (q*6+l) _) (fun k H h2 e=>oM);obtain⟨Y,aG,C⟩:∃ Y:Nat->Nat->Nat,(tbC m F).set (q*6+l) (.int .i64 (v:Nat))=tbC m Y∧Hid ((∀ x y,x<q->y<6->Y x y=aGo a x y)∧(∀ (j y:Nat),j<k+1->u[j]?=some y->Y q y=aGo a q y)∧∀ y,y<6->(∀ j,j<k+1->u[j]?≠some y)->Y q y=q):=by
        refine⟨fun x y=>if x=q∧y=l then v else F x y,tbC_set hlt R (fun _ _ _ _=>rfl),⟨fun x y H h2=>?_,fun j y Z hy=>?_,fun y h6 hy=>?_⟩⟩
        ·show (if x=q∧y=l then v else F x y)=_;rw [if_neg oM];exact o.out.1 x y H h2
        ·show (if q=q∧y=l then v else F q y)=_
         by_cases e:y=l
         ·rw [if_pos ⟨rfl,e⟩,e,hv.out]
         ·rw [if_neg (fun h=>e h.2)]
          by_cases e2:j=k
          ·subst e2;have:=hl.out;rw [hy] at this;exact absurd (Option.some.inj this) e
          ·exact o.out.2.1 j y oM hy
        ·show (if q=q∧y=l then v else F q y)=_;rw [if_neg (fun h=>hy k oM (by rw [h.2];exact hl.out))];exact o.out.2.2 y h6 (fun j Z=>hy j oM)
       rw [aG] at s;have r:=s.1;refine zb fun K hK=>?_;go_simp;refine hK.out _ _ ?_;refine zf ?_;clear s av I ao;go_wp2_with fail
       go_roundw
       case rel=>exact⟨k+1,Y,gM,oM,C,r,V,D⟩
       case measure=>simp [intOf];omega
      ·obtain rfl:k=u.length:=oM;have C:=za (show ∀ x y,x<q+1->y<6->F x y=aGo a x y from fun x y H h2=>by
        by_cases e:x=q
        ·subst e
         by_cases hb:y∈u
         ·obtain⟨j,Z⟩:=eT hb;exact o.out.2.1 j y (List.getElem?_eq_some_iff.1 Z).1 Z
         ·rw [o.out.2.2 y h2 (fun j _ Z=>hb (eB Z))];unfold aGo;rw [M.out,if_neg];intro hbt;exact hb (by rw [← z.out];exact zB.2 ⟨h2,hbt⟩)
        ·exact o.out.1 x y oM h2)
       go_wp2_with fail
       go_roundw
       case rel=>exact⟨q+1,F,gM,oM,C,b,t,c⟩
       case measure=>simp [intOf];omega
  ·obtain rfl:m=q:=oM;have an:=za (show RetTb2 w a (.returned (.slice (some f.heap.size) m m)) wr from by
    refine⟨_,m,by rw [Hn.out],⟨f.heap.size,T.size,?_⟩,T.trans t⟩;have H:=b;rw [Hn.out,tbC_congr (g:=aGo a) (fun x y t hy=>o.out x y (oH Hn.out) hy)] at H;rw [Hn.out];exact H)
   clear b;go_wp2;go_ret;exact an.out
theorem zcM (h:zC w lo hi B m B' m' a)(hv:zj a=true) :
  Calls Tryz.prog 151 #[.agg #[a.al,.slice B m d,.slice B' m' d']] w (RetTb w a):=by
 refine (zbM h hv).mono ?_;rintro e j ⟨A,c,f,⟨b,-,g⟩,i⟩;exact⟨A,c,f,⟨b,g⟩,i⟩
section
variable {P:Program} (w:World)
theorem ziN (base:Nat) (t ty e:TypeId) (i:TypeInfo) (size:Nat)(ht:P.underlying t=some (.slice e))(hi:P.info? e=some i)
  (v:Value) (n:Nat) (xs:List Value) (zjc:w.ownsRow base e size v n xs) (c:Nat):(Builtin.append_ #[t,t] ty #[v,.slice none 0 c]).run P w=.ok v w:=by
 rcases zjc.2 with ⟨rfl,rfl⟩|⟨g,b,d,rfl,_,_,a,_⟩
 ·simp [Builtin.append_,run_underlying ht,sizeOf,typeInfo,hi,Builtin.lenOf,Builtin.firstCells]
 ·simp [Builtin.append_,run_underlying ht,sizeOf,typeInfo,hi,Builtin.lenOf,Builtin.firstCells,a,storeCells]
theorem zv {o:Oper} {a:Act} {K:Act->World->Prop} {Q:Exit->Act->World->Prop} (s x:Operand) (t:TypeId)
  (ho:o.op=.call { callee:=.builtin .append,args:=#[s,x],argTypes:=#[t,t] })
  (base:Nat) (e:TypeId) (z:Value) (size bytes:Nat) (ht:P.underlying t=some (.slice e)) (hi:(P.info? e).map (fun i=>(i.zero,i.size,i.bytes))=some (some z,size,bytes)) (hzs:z.cells.size=size) (hsz:0<size)
  (v:Value) (n:Nat) (xs:List Value) (hs:a.eval s=v) (zjc:w.ownsRow base e size v n xs)
  (lo hi':Nat) (A:Option Addr) (m c:Nat) (news:List Value) (hx:a.eval x=.slice A m c) (hr:Reads w lo hi' size A m news) (h1:∀ u∈news,u.oneCell'=true)
  (h63:n+m<=maxLen) (hbytes:(n+m)*bytes<=140737488355328) (hbase:base<=w.heap.size)
  (h:∀ v' w',w'.ownsRow base e size v' (n+m) (xs++news)->w.grownBy w' v.ownBlock->(v'.ownBlock=v.ownBlock∨v'.ownBlock=some w.heap.size)->K (a.put o.dst v') w'):o.wp P a w K Q:=by
 obtain⟨i,b,p,q,r⟩:=info_parts hi;have l:∃ v' w',(Builtin.append_ #[t,t] o.type #[v,.slice A m c]).run P w=.ok v' w'∧w'.ownsRow base e size v' (n+m) (xs++news)∧w.grownBy w' v.ownBlock∧(v'.ownBlock=v.ownBlock∨v'.ownBlock=some w.heap.size):=by
  by_cases h0:m=0
  ·subst h0;obtain rfl:news=[]:=eK (by simpa using hr.1);cases A with
   |none=>exact⟨v,w,ziN w base t o.type e i size ht b v n xs zjc c,by simpa using zjc,World.grownBy.refl w _,.inl rfl⟩
   |some y =>
    obtain⟨v',w',d,f,g,_,k⟩:=run_append_own_at (P:=P) w base t o.type e i z size bytes ht b p q r hzs hsz v n xs zjc y 0 c [] sM (fun j u hu=>by simp at hu) h1 h63 hbytes hbase;exact⟨v',w',d,f,g,k⟩
  ·obtain⟨y,rfl,_,_,B⟩:=hr.2.2 oM;obtain⟨v',w',d,f,g,_,k⟩:=run_append_own_at (P:=P) w base t o.type e i z size bytes ht b p q r hzs hsz v n xs zjc y m c news hr.1 B h1 h63 hbytes hbase;exact⟨v',w',d,f,g,k⟩
 obtain⟨v',w',d,f,g,k⟩:=l;unfold Oper.wp execOp;simp only [ho,resolve,invoke,builtin,Sem.run_bind,Sem.run_pure,Result.andThen_ok,List.map_toArray,List.map_cons,List.map_nil,hs,hx,d];exact h v' w' f g k
theorem zcH {ops:Array Oper} {rest:List Oper} {o:Oper} {a:Act} {Q:Exit->Act->World->Prop}(hgd:o.guard=none) (s x:Operand) (t:TypeId)
  (ho:o.op=.call { callee:=.builtin .append,args:=#[s,x],argTypes:=#[t,t] })
  (base:Nat) (e:TypeId) (z:Value) (size bytes:Nat) (ht:P.underlying t=some (.slice e)) (hi:(P.info? e).map (fun i=>(i.zero,i.size,i.bytes))=some (some z,size,bytes)) (hzs:z.cells.size=size) (hsz:0<size)
  (v:Value) (n:Nat) (xs:List Value) (hs:a.eval s=v) (zjc:w.ownsRow base e size v n xs)
  (lo hi':Nat) (A:Option Addr) (m c:Nat) (news:List Value) (hx:a.eval x=.slice A m c) (hr:Reads w lo hi' size A m news) (h1:∀ u∈news,u.oneCell'=true)
  (h63:n+m<=maxLen) (hbytes:(n+m)*bytes<=140737488355328) (hbase:base<=w.heap.size)
  (h:∀ v' w',w'.ownsRow base e size v' (n+m) (xs++news)->w.grownBy w' v.ownBlock->(v'.ownBlock=v.ownBlock∨v'.ownBlock=some w.heap.size)->wpList P ops Q rest (a.put o.dst v') w'):wpList P ops Q (o :: rest) a w:=
 wpList_plain hgd fun _ hK=>zv w s x t ho base e z size bytes ht hi hzs hsz v n xs hs zjc lo hi' A m c news hx hr h1 h63 hbytes hbase fun v' w' h2 h3 h4=>hK _ _ (h v' w' h2 h3 h4)
end
theorem nats_oneC (l:List Nat):∀ u∈zU l,u.oneCell'=true:=by
 intro u hu;obtain⟨x,_,rfl⟩:=List.mem_map.1 hu;rfl
def RetNx (w:World) (base:Nat) (v:Value) (xs:List Value) (R:List Nat) (e:Ending) (w':World):Prop:=
 ∃ v',e=.returned v'∧w'.ownsRow base 3 1 v' (xs.length+R.length) (xs++zU R)∧Frm (fun b=>v.ownBlock=some b) w w'∧(v'.ownBlock=v.ownBlock∨∃ b,v'.ownBlock=some b∧w.heap.size<=b)
theorem flat_snoc {l:List Nat} {a:Nat} (f:Nat->List Nat)(h:l[a]?=some q):(l.take (a+1)).flatMap f=(l.take a).flatMap f++f q:=by
 rw [eH,h];simp
theorem drop_cons {j:Nat} {s:Sys}(h:ss[j]?=some s):ss.drop j=s :: ss.drop (j+1):=by
 obtain⟨a,rfl⟩:=List.getElem?_eq_some_iff.1 h;exact List.drop_eq_getElem_cons a
theorem impl_next {v:Value} {xs:List Value} (h:PtAt w lo hi A k lo' hi' M ss)(hs:∀ s∈ss,Sml s)(hk4:k<=4)(hm:m<=4611686018427387904)(hl:l<6)(hT:Tab w)
  (zjc:w.ownsRow base 3 1 v n xs) (hb:base<=w.heap.size) (hn:n<=1099511627776) :
  Calls Tryz.prog 180 #[.agg #[.slice A k c,.slice M k d],m,l,v] w (RetNx w base v xs (nx ss m l).1):=by
 have HP:=za (fun W (hW:Ext w W)=>h.ext hW);have HT:=za (fun W (hW:Ext w W)=>hT.ext hW);have HO:=za (fun W (hW:Ext w W)=>zg zjc hW);have Hs:=za hs;have bg:=za h.sys.1;have be:=za (fun j=>nx_facts (ss:=ss.drop j) (fun s hx=>hs s (jU hx)) m l);have aN:=za (fun j=>nx_len (ss:=ss.drop j) (fun s hx=>hs s (jU hx)) m l);have aC:=za (show ∀ j,16 ^ (ss.drop j).length<=65536 from fun j=>by
  have:(ss.drop j).length<=4:=by rw [List.length_drop,← h.sys.1];omega
  exact eJ (eW oM this) dM)
 have cj:=zjc.1;clear h hs hT zjc
 go_enter Tryz.func180,Tryz.ntmps180
 have bp:Blk (w.alloc (.cells #[.slice A k c,.slice M k d] 204)) w.heap.size 204 #[.slice A k c,.slice M k d]:=eX w _ _;have aU:=(dB w).alloc (.cells #[.slice A k c,.slice M k d] 204);have Y:=World.ownsRow_lit (base:=w.heap.size) (e:=3) (size:=1) (w.alloc (.cells #[.slice A k c,.slice M k d] 204)) #[(0:Int)] 1 aU.size dM rfl;rw [show (w.alloc (.cells #[.slice A k c,.slice M k d] 204)).heap.size=w.heap.size+1 by simp] at Y;have aA:=bp.ext ((dB _).alloc (.cells #[(0:Int)] 3));have cp:=aA.cell;go_upto_region 2 with fail
 generalize U0:(w.alloc _).alloc _=w2 at *;have E:=aU.trans (Ext.al_ U0);clear U0;go_wp2_with fail
 go_loopw [1,9,10,11] (fun f rv wt i wr=>∃ (j nd' W:Nat) (R:List Nat),j<=k∧i=.int .i64 ((j:Int) - 1)∧f=.int .i64 (nd':Nat)∧wt=.int .i64 (W:Nat)∧Hid (nx (ss.drop j) m l=(R,W,nd'))∧wr.ownsRow w.heap.size 3 1 rv R.length (zU R)∧Ext w2 wr) (fun _ _ _ i _=>(intOf i+1).toNat)
 case atStart=>exact⟨k,m,1,[0],eA _,gM,rfl,rfl,za (by rw [List.drop_of_length_le (by rw [← bg.out];exact eA _)];rfl),Y,dB _⟩
 case round =>
  clear Y cp;obtain⟨j,f,W,R,hj,rfl,rfl,rfl,aw,hR,I⟩:=hrel;have ad:=aA.ext I;have cp:=ad.cell
  by_cases hlt:1<=j
  ·obtain⟨i,rfl⟩:∃ i,j=i+1:=⟨j - 1,oM⟩;obtain⟨g,o,s,B,q,c',rfl,_,_,hs,c0,c1,c2,-⟩:=(HP.out wr (E.trans I)).sys.sys (k:=i) oM;have t:=za (Hs.out s (eB hs.out));obtain⟨p,hp⟩:∃ p:Nat,Hid (s.st=p):=⟨s.st.toNat,za (oH t.out.1)⟩;have ce:1<=p∧p<=16:=by have:=t.out.1;have:=t.out.2.1;have:=hp.out;omega
   obtain⟨al,ab⟩:∃ al:Nat,Hid (s.al=al):=⟨s.al.toNat,za (oH t.out.2.2.2)⟩;have bq:Sm al:=by have:=t.out.2.2.2;have:=ab.out;unfold Sm;omega
   rw [ab.out] at c0;rw [hp.out] at c1;have bf:(((i+1:Nat):Int) - 1)=(i:Int):=oM;rw [bf];have hF:=be.out (i+1);have aF:=aN.out (i+1);have aE:=aC.out (i+1);rw [aw.out] at hF aF;obtain⟨ba,bb,aI,a8,bk⟩:=hF;have a3:=za aI;clear aI a8;dsimp only at ba bb bk aF;obtain⟨T,H⟩:∃ T,Hid (cho s (f % p) l=T):=⟨_,za rfl⟩;have b9:T.length<=16:=by
    have:=cho_len t.out (i:=f % p) (l:=l) (by have:=hp.out;have:=iT f (show 0<p by omega);omega);rw [H.out] at this;have:=hp.out;omega
   have aK:=za (show ∀ q∈T,q<16 from fun q hq=>by
    have:=cho_lt t.out (i:=f % p) (l:=l) (by have:=hp.out;have:=iT f (show 0<p by omega);omega) q (by rw [H.out];exact hq);have:=hp.out;omega)
   have bO:((f:Int)).tmod (p:Int)=((f % p:Nat):Int):=rfl;have bN:((f:Int)).tdiv (p:Int)=((f / p:Nat):Int):=rfl;have cc:(i:Int)<(k:Int):=oM;have U:=(dB wr).alloc (.cells #[al,p,.slice B q c'] 38);have bP:(f:Int)<=4611686018427387904:=oM;have cg:((p:Int)==0)=false:=by simp;omega
   go_upto_region 6 with fail
   clear c0 c1 c2 cp;have cp:=(ad.ext U).cell;have aj:=ad.ext U;have aG:=zg hR U;have S:=I.trans U;generalize U0:wr.alloc _=w3 at *;have bs:=Ext.bl_ U0;clear U0;generalize wr.heap.size=G3 at *;have c3:=bs.cell;go_upto_region 7 with fail
   obtain⟨z,ag⟩:∃ z:Nat,Hid (f % p=z):=⟨_,za rfl⟩;have hz:((f:Int) % (p:Int))=(z:Int):=by rw [← ag.out];exact (jF f p).symm
   have bA:z<16:=by have:=iT f (show 0<p by omega);have:=ag.out;omega
   rw [hz];rw [ag.out] at H;have af:=(dB w3).alloc (.cells #[(z:Int)] 3);have h4:=World.ownsRow_lit (base:=w.heap.size) (e:=3) (size:=1) w3 #[(z:Int)] 1 (eJ (eJ E.size S.size) (eA _)) dM rfl;have J:=aj.ext af;have V:=bs.ext af;have aH:=zg aG af;have F:=S.trans af;clear c3 cp bs aj aG S hR I ad U;generalize w3.alloc _=w4 at *;generalize w3.heap.size=G4 at *;have c4:=V.cell;have a7:hasB al (l:Nat)=al.testBit l:=by simp [hasB]
   go_upto_if 41 with (go_at_call 161;refine (zcg al l bq _).mono ?_;rw [a7];rintro e w4 ⟨rfl,rfl⟩)
   go_cut [13] (fun tv wx=>∃ (A':Option Addr) (c2:Nat),tv=.slice A' T.length c2∧Reads wx 0 wx.heap.size 1 A' T.length (zU T)∧Ext w4 wx)
   case first =>
    cases hbt:al.testBit l
    ·have aa:T=[z]:=by
      rw [← H.out,cho,ab.out,fC,hbt];rfl
     subst aa;go_wp2_with fail
     go_meet;exact⟨_,_,rfl,(eY h4).more (eD _) (eA _),dB _⟩
    ·have aa:T=letters (succ s.edges (z:Nat) (l:Nat)) 32:=by
      rw [← H.out,cho,ab.out,fC,hbt];rfl
     go_upto_region 8 with fail
     clear c4;obtain⟨bB,bi,bj⟩:=(HP.out _ (E.trans F)).mov;obtain⟨a4,u,rfl,_,_,hu,aL⟩:=bi.one (k:=i) oM;obtain⟨b,bc,rfl⟩:∃ b,bB[i]?=some b∧u=.pointer (some ⟨b,0,none⟩):=by
      have:=hu.out;simp only [ptrs,eL,hE] at this;obtain⟨b,Y,h2⟩:=this;exact⟨b,Y,h2.symm⟩
     have aO:=(bj.2 i b s bc hs.out).at_;have bD:Few 16 s.edges:=fun e he=>by
      have:=t.out.2.2.1 e he;have:=hp.out;omega
     have s1:=succ_sm bD (eA _) (z:Nat) (l:Nat);have cP:=J.cells;have cS:=fun W (hW:Ext w4 W)=>(V.ext hW).cell;have cM:∀ W,Ext w4 W->W.cell? (a4.add i)=some (.pointer (some b)):=fun W hW=>hW.aa aL;have cV:∀ W,Ext w4 W->W.cell? ⟨b,z*6+l,none⟩=some (.int .i64 (succ s.edges (z:Nat) (l:Nat):Nat)):=fun W hW=>hW.aa (aO z l bA hl);have bW:(z:Int)<16:=oM;have cd:(l:Int)<6:=oM;have bl:¬ (p=0):=oM;have a9:=za aa;generalize succ s.edges (z:Nat) (l:Nat)=sc at *;have D:=dB w4;clear aL aO aa;refine uR (fun X=>Ext w4 X) [14] (zu.of [0,1,2,3,4,5,6,7,8,9,10,11,12,13,14,15]) ?_;refine uQ ?_;refine ze fun K hK=>?_;go_simp;refine hK.out _ _ D.drew ?_;refine pT ?_;refine uQ ?_;refine ze fun K hK=>?_;go_simp;refine (impl_members sc s1 _ (HT.out _ (E.trans (F.trans D.drew)))).mono ?_;rintro e w5 ⟨A5,c5,rfl,ah,bw⟩;have ap:=D.drew.trans bw;rw [← a9.out] at ah ⊢;refine hK.out _ _ ap ?_;refine pT ?_;refine uQ ?_;refine zf ?_;go_wp2_with fail
     go_meet;exact⟨_,_,rfl,(eY ah).more (eD _) (eA _),ap⟩
   case rest =>
    obtain⟨A',c2,rfl,aJ,C⟩:=hcut;have Z:=zg aH C;have a6:=V.ext C;have aq:=F.trans C;have bM:=J.ext C;clear h4 aH V F J C c4;have ca:=aJ.len;have bY:=za Z;obtain⟨AR,cR,rfl⟩:=zi Z;have au:=eY Z;have ar:R.length<=65536:=oM;clear Z;go_wp2_with fail
    go_loopw [14,59] (fun mv ia wx=>∃ a:Nat,a<=T.length∧ia=.int .i64 (a:Nat)∧wx.ownsRow wc.heap.size 3 1 mv ((T.take a).flatMap fun q=>R.map fun x=>q*W+x).length (zU ((T.take a).flatMap fun q=>R.map fun x=>q*W+x))∧Ext wc wx) (fun _ ia _=>T.length - (intOf ia).toNat)
    case atStart=>exact⟨0,eD _,rfl,World.ownsRow_nil _ _ _ _,dB _⟩
    case round =>
     obtain⟨a,ha,rfl,av,ae⟩:=hrel
     by_cases hat:a<T.length
     ·obtain⟨b2,qv,rfl,_,_,bn,bm⟩:=(aJ.ext ae).one (k:=a) hat;obtain⟨G,aR,rfl⟩:∃ G,Hid (T[a]?=some G)∧qv=.int .i64 (G:Nat):=by
       have:=bn.out;simp only [zU,eL,hE] at this;obtain⟨x,Y,h2⟩:=this;exact⟨x,za Y,h2.symm⟩
      have bS:=aK.out G (eB aR.out);have br:=za (flat_snoc (fun q=>R.map fun x=>q*W+x) aR.out);have cf:((T.take a).flatMap fun q=>R.map fun x=>q*W+x).length<=16*65536:=by
       have:∀ L:List Nat,(L.flatMap fun q=>R.map fun x=>q*W+x).length=L.length*R.length:=by
        intro L
        induction L with
        |nil=>simp
        |cons x r ih=>rw [List.flatMap_cons,eO,ih,eQ,List.length_cons,Nat.add_mul,Nat.one_mul,Nat.add_comm]
       rw [this,fH];exact fX oM ar
      generalize (T.take a).flatMap (fun q=>R.map fun x=>q*W+x)=P at *;go_upto_region 13 with fail
      clear bm;go_wp2_with fail
      go_loopw [14,65] (fun mv ib wy=>∃ b:Nat,b<=R.length∧ib=.int .i64 (b:Nat)∧wy.ownsRow wc.heap.size 3 1 mv (P++(R.take b).map fun x=>G*W+x).length (zU (P++(R.take b).map fun x=>G*W+x))∧Ext wc wy) (fun _ ib _=>R.length - (intOf ib).toNat)
      case atStart=>exact⟨0,eD _,rfl,by simpa using av,ae⟩
      case round =>
       obtain⟨b,cb,rfl,O,ay⟩:=hrel
       by_cases hbt:b<R.length
       ·obtain⟨b1,rv,rfl,_,_,bo,ch⟩:=(au.ext ay).one (k:=b) hbt;obtain⟨r1,aS,rfl⟩:∃ r1,Hid (R[b]?=some r1)∧rv=.int .i64 (r1:Nat):=by
         have:=bo.out;simp only [zU,eL,hE] at this;obtain⟨x,Y,h2⟩:=this;exact⟨x,za Y,h2.symm⟩
        have bU:=a3.out r1 (eB aS.out);have aQ:G*W<=16*65536:=fX oM oM;have b8:(P++(R.take b).map fun x=>G*W+x).length<=17*65536:=by
         rw [eO,eQ,fH];omega
        obtain⟨qw,ax⟩:∃ qw:Nat,Hid (G*W=qw):=⟨_,za rfl⟩;have bT:(G:Int)*(W:Int)=(qw:Int):=by rw [← ax.out];exact (gK G W).symm
        have aT:=za (show (P++(R.take (b+1)).map fun x=>G*W+x)=(P++(R.take b).map fun x=>G*W+x)++[qw+r1] by
         rw [eH,aS.out,← ax.out]
         simp)
        rw [ax.out] at aQ;generalize P++(R.take b).map (fun x=>G*W+x)=P3 at *;go_wp2_with (at_builtin;refine zal wc wr rfl _ _ _ rfl 3 _ 1 8 Tryz.underlying128 zai rfl dM u14 _ _ _ _ rfl rfl ay O rfl (zaY _) lM oM ?_;intro v' w1 hext1 zjl hg1 hat1)
        go_roundw
        case rel=>exact⟨b+1,oM,gM,by rw [aT.out,eO];simpa [zU] using zjl,hext1⟩
        case measure=>simp [intOf];omega
       ·obtain rfl:b=R.length:=oM;rw [fI] at O;go_wp2_with fail
        go_roundw
        case rel=>exact⟨a+1,oM,gM,by rw [br.out];exact O,ay⟩
        case measure=>simp [intOf];omega
     ·obtain rfl:a=T.length:=oM;rw [fI] at av;have c5:=(a6.ext ae).cell;have bd:((f:Int) / (p:Int))=((f / p:Nat):Int):=(jW f p).symm;have bu:W*p<=65536*16:=fX oM oM;obtain⟨wp,Q⟩:∃ wp:Nat,Hid (W*p=wp):=⟨_,za rfl⟩;have bV:(W:Int)*(p:Int)=(wp:Int):=by rw [← Q.out];exact (gK W p).symm
      rw [Q.out] at bu;have an:=za (show nx (ss.drop i) m l=(T.flatMap (fun q=>R.map fun x=>q*W+x),wp,f / p) by
       rw [drop_cons hs.out,nx,aw.out,← Q.out,← H.out];have e:s.st.toNat=p:=oH hp.out;rw [e,ag.out])
      have bl:¬ (p=0):=oM;have bz:=aq.trans ae;have bt:w.heap.size<=wc.heap.size:=eJ E.size aq.size;have aP:=zr av bt;obtain⟨aV,ak⟩:∃ y:Nat,Hid (f / p=y):=⟨_,za rfl⟩;rw [ak.out] at bd an;have bR:aV<=f:=by rw [← ak.out];exact jA _ _
      go_wp2_with fail
      go_roundw
      case rel=>exact⟨i,aV,wp,_,oM,gM,gM,gM,an,aP,bz⟩
      case measure=>simp [intOf]
  ·obtain rfl:j=0:=oM;have am:=za (show (nx ss m l).1=R by
    have:=aw.out;rw [List.drop_zero] at this;rw [this])
   have bh:=aN.out 0;have aE:=aC.out 0;rw [List.drop_zero,am.out] at bh;rw [List.drop_zero] at aE;have hO:=HO.out wr (E.trans I);have D:=E.trans I;have bx:xs.length=n:=oM;obtain⟨AR,cR,rfl⟩:=zi hR;have au:=eY hR;have bQ:¬ (0<=(((0:Nat):Int) - 1)):=oM;go_wp2_with (at_builtin;refine zcH wr rfl _ _ 128 rfl base 3 _ 1 8 Tryz.underlying128 zai rfl dM v n xs rfl hO _ _ AR R.length cR (zU R) rfl au (nats_oneC R) lM oM (eJ hb D.size) ?_;intro v' w5 ah hg5 hat5)
   go_ret;refine⟨v',rfl,by rw [bx,am.out];exact ah,D.ak.trans ((Frm.af hg5).mono fun b _ h=>h),?_⟩;rcases hat5 with h|h
   ·exact .inl h
   ·exact .inr ⟨_,h,D.size⟩
structure BCaps (w:World) (g8 g10 g11 g12 g13:Nat) (A M UA RA:Option Addr) (k c dm uc rc:Nat) (ss:List Sys) (a p:Aut):Prop where
 h8:Blk w g8 204 #[.slice A k c,.slice M k dm]
 h10:Blk w g10 177 #[.slice UA a.next.length uc]
 h11:Blk w g11 177 #[.slice RA p.next.length rc]
 h12:Blk w g12 3 #[.int .i64 (a.next.length:Nat)]
 h13:Blk w g13 3 #[.int .i64 (p.next.length:Nat)]
 pt:∃ lo hi lo' hi',PtAt w lo hi A k lo' hi' M ss
 tu:∃ lo hi,TbAt w lo hi UA a
 tr:∃ lo hi,TbAt w lo hi RA p
theorem BCaps.ext {g8 g10 g11:Nat} {UA RA:Option Addr} {uc rc:Nat}  (h:BCaps w g8 g10 g11 g12 g13 A M UA RA k c dm uc rc ss a p)(hx:Ext w w'):BCaps w' g8 g10 g11 g12 g13 A M UA RA k c dm uc rc ss a p:=by
 obtain⟨q,o,g,b,l⟩:=h.pt;obtain⟨i,d,m⟩:=h.tu;obtain⟨j,f,n⟩:=h.tr;exact⟨h.h8.ext hx,h.h10.ext hx,h.h11.ext hx,h.h12.ext hx,h.h13.ext hx,⟨q,o,g,b,l.ext hx⟩,⟨i,d,m.ext hx⟩,⟨j,f,n.ext hx⟩⟩
theorem zdA (h:∀ s∈ss,Sml s):1<=zD (ss.map zdv):=zfq fun m hm=>by
 obtain⟨s,hs,rfl⟩:=List.mem_map.1 hm
 exact zdZ (h s hs)
theorem zcR (h:∀ s∈ss,Sml s):zD (ss.map zdv)<=16 ^ ss.length:=by
 have a:∀ x∈(ss.map zdv).map Prod.fst,x<=16:=fun x hx=>by
  rw [gZ] at hx;obtain⟨s,b,rfl⟩:=List.mem_map.1 hx;have a:=(h s b).1;have c:=(h s b).2.1;simp only [Function.comp,zdv];omega
 have:=prodS_le a;simpa [zD] using this
theorem zhV (h:PtAt w lo hi A k lo' hi' M ss)(hs:∀ s∈ss,Sml s)(hk:k<=3) :
  Calls Tryz.prog 183 #[.agg #[.slice A k c,.slice M k dm]] w fun e w'=>e=.returned (.int .i64 (zD (ss.map zdv):Nat))∧Ext w w':=by
 have E:=za (fun W (hW:Ext w W)=>h.sys.ext hW);have I:=za h.sys.1;have G:=za hs;have F:=za (show ∀ j,1<=zD ((ss.take j).map zdv)∧zD ((ss.take j).map zdv)<=4096 from fun j=>by
  have x:∀ s∈ss.take j,Sml s:=fun s hs'=>hs s (List.mem_of_mem_take hs');refine⟨zdA x,eJ (zcR x) ?_⟩;have H:(ss.take j).length<=3:=by rw [fH];have:=h.sys.1;omega
  calc 16 ^ (ss.take j).length<=16 ^ 3:=eW oM H
   _=4096:=by decide)
 clear hs h
 go_enter Tryz.func183,Tryz.ntmps183
 go_upto_region 1 with fail
 generalize U0:w.alloc _=S at *;obtain⟨r,n⟩:=gX U0;clear U0;have u:=n.cell;go_wp2_with fail
 go_loopw [3,5,9] (fun v _ i wr=>∃ j y:Nat,i=.int .i64 j∧j<=k∧v=.int .i64 y∧y<=4096∧Hid (y=zD ((ss.take j).map zdv))∧Ext w wr) (fun _ _ i _=>k - (intOf i).toNat)
 case atStart=>exact⟨0,1,rfl,eD _,rfl,oM,rfl,r⟩
 case round =>
  obtain⟨j,y,rfl,Q,rfl,R,l,m⟩:=hrel
  by_cases hlt:j<k
  ·obtain⟨b,o,s,B,q,d,rfl,_,_,hs,L,u,O,_⟩:=(E.out wr m).sys hlt;have g:=G.out s (eB hs.out);obtain⟨p,C⟩:∃ p:Nat,Hid (s.st=p):=⟨s.st.toNat,by have:=g.1;unfold Hid;omega⟩;have f:=za (show zD ((ss.take (j+1)).map zdv)=y*p by
    rw [eH,hs.out,e7,fB,zbD,← l.out];simp [zD,zah,zdv,C.out])
   have a:=(F.out (j+1)).2;rw [f.out] at a;obtain⟨z,D⟩:∃ z:Nat,Hid (y*p=z):=⟨_,rfl⟩;have J:(y:Int)*(p:Int)=(z:Int):=by rw [← D.out];exact (gK y p).symm
   rw [D.out] at a f;rw [C.out] at u;clear g;go_wp2_with fail
   go_roundw
   case rel=>exact⟨j+1,z,gM,oM,gM,a,f.symm,by first|exact m.alloc _|exact (m.alloc _).drew⟩
   case measure=>simp [intOf];omega
  ·obtain rfl:k=j:=oM;have t:=za (show y=zD (ss.map zdv) by rw [l.out,eE (oH I.out)]);go_wp2;go_ret;exact⟨zG (by rw [t.out]),m⟩
structure GCaps (w:World) (g4 ga g5 g12 g13:Nat) (a p:Aut):Prop where
 h4:Blk w g4 187 #[.pointer (some ga)]
 ha:∃ (B:Option Addr) (m d:Nat) (B':Option Addr) (m' d' lo hi:Nat),Blk w ga 31 #[a.al,.slice B m d,.slice B' m' d']∧zC w lo hi B m B' m' a
 h5:∃ (B:Option Addr) (m d:Nat) (B':Option Addr) (m' d' lo hi:Nat),Blk w g5 31 #[p.al,.slice B m d,.slice B' m' d']∧zC w lo hi B m B' m' p
 h12:Blk w g12 3 #[.int .i64 (a.next.length:Nat)]
 h13:Blk w g13 3 #[.int .i64 (p.next.length:Nat)]
theorem GCaps.ext (h:GCaps w g4 ga g5 g12 g13 a p)(hx:Ext w w'):GCaps w' g4 ga g5 g12 g13 a p:=by
 obtain⟨B,m,d,g,u,k,t,s,l,o⟩:=h.ha;obtain⟨C,n,c,i,v,j,f,b,q,r⟩:=h.h5;exact⟨h.h4.ext hx,⟨B,m,d,g,u,k,t,s,l.ext hx,o.ext hx⟩,⟨C,n,c,i,v,j,f,b,q.ext hx,r.ext hx⟩,h.h12.ext hx,h.h13.ext hx⟩
theorem zeV (h:zC w lo hi B m B' m' a)(hq:q<m'):∃ ad,B'=some ad∧w.cell? (ad.add q)=some (.bool (zck a q)):=by
 obtain⟨ad,x,rfl,_,_,c,b⟩:=h.2.2.bool hq;exact⟨ad,rfl,by rw [b];unfold zck;rw [eF,c.out];rfl⟩
theorem brk_goal (h:GCaps w g4 ga g5 g12 g13 a p)(hv:zj a=true)(hp:zj p=true)(hx:x<=4611686018427387904) :
  Calls Tryz.prog 181 #[.int .i64 (x:Nat),.pointer (some g4),.pointer (some g13),.pointer (some g12),.pointer (some g5)] w fun e w'=>e=.returned (.bool (zck a (x / p.next.length % a.next.length)&&!zck p (x % p.next.length)))∧Ext w w':=by
 obtain⟨_,⟨s,J⟩,L,_⟩:=zk hv;obtain⟨_,⟨E,p2⟩,p3,_⟩:=zk hp;obtain⟨B,m,d,B',z,d',lo,hi,v,i⟩:=h.ha;obtain⟨C,n,c,C',D,c',af,V,u,l⟩:=h.h5;have o:=i.n2;have r:=l.n2;have t:=h.h4;have f:=h.h12;have g:=h.h13;clear h hv hp;generalize hNa:a.next.length=N at *;generalize hNp:p.next.length=b at *;have k:x / b % N<N:=iT _ s;have j:x % b<b:=iT _ E;obtain⟨ad,rfl,S⟩:=zeV i (q:=x / b % N) oM;obtain⟨M,rfl,T⟩:=zeV l (q:=x % b) oM;have U:(x:Int) / (b:Int)=((x / b:Nat):Int):=(jW x b).symm;have X:((x / b:Nat):Int) % (N:Int)=((x / b % N:Nat):Int):=(jF _ N).symm;have y:(x:Int) % (b:Int)=((x % b:Nat):Int):=(jF x b).symm;have ae:x / b<=4611686018427387904:=eJ (jA _ _) hx;have R:¬ (N=0):=oM;have Q:¬ (b=0):=oM;have aa:x / b % N<z:=oM;have ab:x % b<D:=oM;have K4:=t.cell 0;have Ka:=v.cell;have K5:=u.cell;have H:=f.cell 0;have I:=g.cell 0;clear t f g v u i l o r L p3 hNa hNp k j s J E p2;generalize x / b % N=F at *;generalize x % b=G at *;generalize x / b=xd at *;have Y:(F:Int)<(z:Int):=oM;have Z:(G:Int)<(D:Int):=oM;generalize zck a F=O at *;generalize zck p G=b2 at *;cases O
 all_goals
  go_enter Tryz.func181,Tryz.ntmps181
  go_wp2_with fail
  go_quiet (fail)
  go_wp2_with fail
  go_ret;exact⟨zm sM,(dB _).drewN _⟩
end Go.Proofs.YtcfchopfijalpaaGreatDoor
