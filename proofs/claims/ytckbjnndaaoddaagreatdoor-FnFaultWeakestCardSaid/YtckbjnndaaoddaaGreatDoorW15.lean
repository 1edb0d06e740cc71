/- impl.newSafe -/
import Derived.Test.YtckbjnndaaoddaaGreatDoorW14
import Derived.Laws.StructEq
set_option maxHeartbeats 4000000
set_option maxRecDepth 100000
namespace Go.Proofs.YtckbjnndaaoddaaGreatDoor
open Go Go.RowKit
open Blk renaming new->dZ
open Ext renaming bl_->eA,eq_->e6,refl->cY,x1_->gH
open Frm renaming setCell->dG
open List renaming getElem?_eq_getElem->dB,getElem?_set_ne->fQ,getElem?_set_self->eX,length_cons->fN,length_set->e9,mem_of_getElem?->dC,nil_append->eI,getElem?_eq_some_iff->j9
open Nat renaming le_refl->dD,le_trans->dL,zero_add->dW,zero_le->dF
open Bool renaming false->j1,true->jU
open Go renaming Calls->j6,Value->j4,World->jX
open Go.Ending renaming returned->j5
open Go.IntKind renaming i64->iX
open Go.Value renaming agg->j2,bool->j7,pointer->kB,slice->fC,string->kA
open Option renaming none->fV,some->fU
open Option.some renaming inj->j8
open _root_.Go.Proofs.Tryz renaming prog->j3
variable {A A':Option Addr}{G L M N R Z a base c c' g i n n' p:Nat}{S:Nat->Prop}{W w w' w0 w1:jX}{al st x:Int}{b:Aut}{cs us:Array j4}{es:List Edg}{l:List Int}{s:Sys}{v v':j4}
theorem Tab.frm {T:Nat->Prop}{W':jX}(h:Tab w)(hx:Ext w W)(hf:Frm T W W')(hT:∀ q,T q->w.heap.size<=q):Tab W':=fun j hj=>by
 have h1:=hx.aa (h j hj)
 have h0:=World.block_lt_of_cell? w _ (h j hj)
 have h2:=World.block_lt_of_cell? W _ h1
 exact (World.cell?_of_block (w:=W) (hf.block _ h2 (fun e=>by have:=hT _ e;omega))).trans h1
structure NsI (F:Sfx) (s:Sys) (p:Aut) (L:Nat) (w wx:jX):Prop where
 ok:zij F
 hs:F.s=s
 hp:F.p=p
 hL:F.L=L
 b0:F.b0=w.heap.size
 blk:Blk wx F.G 152 (sfC F (fC fV 0 0) (fC fV 0 0) (fC fV 0 0))
 map:zdC 222 litP domP wx F.mb 0 (fun _=>fV)
 w9:wx=F.w9
 ext:Ext w wx
section
variable {w W:jX}{lo hi n c m d m' d' L:Nat}{A B B':Option Addr}{s:Sys}{p:Aut}
theorem ns_fin {mv rc hc mb:Nat}{RA HA:Option Addr}(hs:zk s=jU)(hp:zj p=jU)(hL:L<64)(hP:zJ w lo hi B m B' m' p)(h0:Ext w0 w)(hhi:hi<=w0.heap.size)(hT:Tab w0)(hw1:Ext w w1)(hx:Ext w1 W)(hmvg:w.heap.size<=mv)(hbg:w.heap.size<=base)
  (hmv:MovB W mv s.edges) (htb:∃ bt,w.heap.size<=bt/\W.ownsRow bt 166 6 (fC RA p.next.length rc) p.next.length (tbC p.next.length (aGo p))) (hhd:W.ownsRow base 3 1 (.slice HA (hidS s L).length hc) (hidS s L).length (zag (hidS s L))) (hmp:zdC 222 litP domP W mb 0 (fun _=>fV)) (hmb:w.heap.size<=mb) :
  ∃ F:Sfx,Value.pointer (fU W.heap.size)=.pointer (fU ⟨F.G,0,fV⟩)/\F.lo=w0.heap.size/\NsI F s p L w (W.alloc (.cells #[s.al,s.st,fC A n c,p.al,fC B m d,fC B' m' d',L,kB (fU mv),fC RA p.next.length rc,.slice HA (hidS s L).length hc,(),.map (fU mb),(),()] 152)):=by
 have hb:=dZ W 152 #[s.al,s.st,fC A n c,p.al,fC B m d,fC B' m' d',L,kB (fU mv),fC RA p.next.length rc,.slice HA (hidS s L).length hc,(),.map (fU mb),(),()];have f:Ext W (W.alloc (.cells #[s.al,s.st,fC A n c,p.al,fC B m d,fC B' m' d',L,kB (fU mv),fC RA p.next.length rc,.slice HA (hidS s L).length hc,(),.map (fU mb),(),()] 152)):=(cY _).alloc _;generalize W.alloc _=X at *;have u:=(hw1.trans hx).size;have r:=hb.lt;have I:=hmp.lt;have g:=(hw1.trans hx).trans f;have i:=hmp.ext f;obtain⟨z,j,H⟩:=hmv.ext f;obtain⟨bt,o,t⟩:=htb;have h:=zi t f;have y:=zi hhd f;refine⟨⟨s,p,L,A,n,c,B,m,d,B',m',d',mv,RA,rc,HA,hc,W.heap.size,mb,w.heap.size,w0.heap.size,X⟩,rfl,rfl,⟨⟨hs,hp,hL,fun Y hY=>?_,h0.size,u,r,hmb,i.lt,by show mb≠W.heap.size;omega⟩,rfl,rfl,rfl,rfl,hb,i,rfl,g⟩⟩;have x:∀ q,Sfx.two ⟨s,p,L,A,n,c,B,m,d,B',m',d',mv,RA,rc,HA,hc,W.heap.size,mb,w.heap.size,w0.heap.size,X⟩ q->w0.heap.size<=q:=fun q hq=>by
  have C:=h0.size;rcases hq with e|e|e
  ·have l:q=W.heap.size:=e;omega
  ·have l:q=mb:=e;omega
  ·exact e.1
 have h3:∀ {e:TypeId} {sz k b:Nat} {v:j4} {xs:List j4},X.ownsRow b e sz v k xs->w.heap.size<=b->e≠152->∀ q,v.ownBlock=fU q->¬ Sfx.two ⟨s,p,L,A,n,c,B,m,d,B',m',d',mv,RA,rc,HA,hc,W.heap.size,mb,w.heap.size,w0.heap.size,X⟩ q:=fun ho hbb hne q hq h=>by
  rcases h with e|e|e
  ·exact zL ho hb hne hq e
  ·have l:q=mb:=e;subst l;exact i.aj ho hq
  ·have D:q<w.heap.size:=e.2;have E:=(ho.lt q hq).1;omega
 have a:Frm (Sfx.two ⟨s,p,L,A,n,c,B,m,d,B',m',d',mv,RA,rc,HA,hc,W.heap.size,mb,w.heap.size,w0.heap.size,X⟩) X Y:=hY;refine⟨hT.frm (h0.trans g) a x,MovB.at_ ⟨z,j.frm a (fun h=>?_),H⟩,?_,?_,⟨lo,hi,((hP.2.2.ext g).frm a (fun q _ E h6=>by have:=x q h6;omega))⟩⟩
 ·rcases h with e|e|e
  ·exact j.diff hb dM e
  ·exact i.far j e
  ·have D:mv<w.heap.size:=e.2;omega
 ·exact TbO.at_ ⟨bt,zf h a (h3 h o dM)⟩
 ·exact⟨_,_,Lst.ai (zf y a (h3 y hbg dM))⟩
def T00:List Nat:=(List.replicate 12 0).set 0 1
theorem zfC:zaP T00 12 (fun q i=>q=0/\i=0):=zia (n:=12) dM
theorem T00_ws {p:Aut}(h:0<p.next.length):WS p T00:=⟨zfC.1,zfC.2.1,fun i q hb=>by rw [((zfC.2.2 i q).1 hb).2];exact h⟩
def RetNs (s:Sys) (p:Aut) (L z:Nat) (w:jX) (e:Ending) (w':jX):Prop:=∃ (F:Sfx) (S:Nat->Prop),e=j5 (.pointer (fU ⟨F.G,0,fV⟩))/\zij F/\F.s=s/\F.p=p/\F.L=L/\F.lo=z/\F.b0=w.heap.size/\SafJ F 0 w' S/\Ext w w'
theorem yW15b1 {P:Prop}(h:P:=by
 go_simp;refine hK.out _ _ ?_;refine pT ?_;refine uQ ?_;refine zg ?_;go_wp2_with fail
 go_meet;obtain⟨F,f1,f2,f3⟩:=zkk;exact⟨F,f1,f2,f3⟩
 ):P:=h
theorem yW15a3 {P:Prop}(h:P:=by
 replace htb:=zi htb hy13;refine uQ ?_;refine zb fun K hK=>?_;have zkk:=ns_fin (A:=A) (n:=n) (c:=c) (d:=d) (d':=d') Hs.out Hp.out hL64 HP0.out h0 hhi Htab.out hw1 hxw13 hmvw hbhd hmv ⟨bt,hbtw,htb⟩ hhd hmp0 hmbge;exact yW15b1
 ):P:=h
theorem yW15a6 {P:Prop}(h:P:=by
 exact yW15b1
 ):P:=h
theorem zff (h0:Ext w0 w)(hS:zU w lo hi A n s)(hP:zJ w lo hi B m B' m' p)(hs:zk s=jU)(hp:zj p=jU)(hL64:L<64)(hhi:hi<=w0.heap.size)(hT:Tab w0) :
  j6 j3 106 #[j2 #[s.al,s.st,fC A n c,p.al,fC B m d,fC B' m' d',L]] w (RetNs s p L w0.heap.size w):=by
 have Hs:=za hs;have Hp:=za hp;have HP0:=za hP;have Htab:=za hT;have C:=zcj hs;have J:=za (show Few 16 s.edges from fun e he=>by have:=C.2.2.1 e he;have:=C.2.1;omega);obtain⟨ak,am⟩:=zab hs;have aL:s.al.toNat<64:=oM;have D:Sm (diff s.al.toNat L):=by
  have:=diff_le s.al.toNat L;unfold Sm;omega
 have aD:bits .andNot iX s.al (L:Int)=((diff s.al.toNat L:Nat):Int):=by
  have h1:=bits_andNot (a:=s.al.toNat) (b:=L) tM tM;rwa [show ((s.al.toNat:Nat):Int)=s.al by omega] at h1
 have hw1:Ext w (w.alloc (.cells #[s.al,s.st,fC A n c,p.al,fC B m d,fC B' m' d',L] 70)):=(cY _).alloc _;have b1:=dZ w 70 #[s.al,s.st,fC A n c,p.al,fC B m d,fC B' m' d',L];have HS:=za (fun X (hX:Ext (w.alloc (.cells #[s.al,s.st,fC A n c,p.al,fC B m d,fC B' m' d',L] 70)) X)=>hS.ext (hw1.trans hX));have HP:=za (fun X (hX:Ext (w.alloc (.cells #[s.al,s.st,fC A n c,p.al,fC B m d,fC B' m' d',L] 70)) X)=>hP.ext (hw1.trans hX));have hp1:=(zl hp).2.1;clear hs hp hS hP hT C ak am;have aN:=@run_makeMap j3
 go_enter Tryz.func106,Tryz.ntmps106
 go_upto_region 1 with fail
 generalize w.alloc _=w1 at *;have aE:=hw1.size
 go_cut [3] (fun v3 wx=>∃ F:Sfx,v3=.pointer (fU ⟨F.G,0,fV⟩)/\F.lo=w0.heap.size/\NsI F s p L w wx)
 case first =>
  have CX:∀ X,Ext w1 X->∀ q,X.cell? ⟨w.heap.size,q,fV⟩=#[Value.int iX s.al,.int iX s.st,fC A n c,.int iX p.al,fC B m d,fC B' m' d',.int iX L][q]?:=fun X hX=>(b1.ext hX).cell;have av:=cY w1;refine uR (fun X=>Ext w1 X) [16] (zy.app [0,1,2,4,5,7,8,9,10,11,12] (zy.two 3 (zy.two 6 (zy.two 13 (zy.of [14,15,16,17]) 14 (zy.of [13,15,16,17])) 14 (zy.of [6,13,15,16,17])) 14 (zy.of [3,6,13,15,16,17]))) ?_;refine uQ ?_;have v:=av.drew;generalize w1.drew=R at *;refine zn (fun K hK=>?_) (fun K hK=>?_)
  ·go_simp;refine (zex (HS.out _ v) J.out).mono ?_;rintro e I ⟨mv,rfl,O,hmv,E⟩;have hmvw:w.heap.size<=mv:=oH v.size;have o:=v.trans E;refine hK.out _ _ o ?_;refine pT ?_;refine zn (fun K hK=>?_) (fun K hK=>?_)
   ·go_simp;refine (zch (HP.out _ o) Hp.out).mono ?_;rintro e z ⟨RA,rc,rfl,⟨bt,aa,htb⟩,t⟩;have hbtw:w.heap.size<=bt:=oH o.size;have g:=o.trans t;refine hK.out _ _ g ?_;refine pT ?_;replace hmv:=hmv.ext t;refine zn (fun K hK=>?_) (fun K hK=>?_)
    ·go_simp;refine (zaf (diff s.al.toNat L) D _).mono ?_;rintro e u ⟨HA,hc,rfl,hhd,hy13⟩;have hbhd:w.heap.size<=z.heap.size:=oH g.size;have hxw13:=g.trans hy13;refine hK.out _ _ hxw13 ?_;refine pT ?_;replace hmv:=hmv.ext hy13;replace htb:=zi htb hy13;refine ze fun K hK=>?_;go_simp;have hmp0:zdC 222 litP domP (u.alloc (.map #[] 0)) u.heap.size 0 (fun _=>fV):=zdC.made u;have h:Ext u (u.alloc (.map #[] 0)):=(cY _).alloc _;obtain⟨x,r⟩:∃ x,Hid (x=u.heap.size):=⟨_,rfl⟩;have hmbge:w.heap.size<=x:=by have:=hxw13.size;have:=r.out;omega
     have f:=hxw13.trans h;rw [<- r.out] at hmp0 ⊢;refine hK.out _ _ f ?_;generalize u.alloc (.map #[] 0)=H at *;refine pT ?_;replace hmv:=hmv.ext h;replace htb:=zi htb h;replace hhd:=zi hhd h;refine uQ ?_;refine zb fun K hK=>?_;have zkk:=ns_fin (A:=A) (n:=n) (c:=c) (d:=d) (d':=d') Hs.out Hp.out hL64 HP0.out h0 hhi Htab.out hw1 f hmvw hbhd hmv ⟨bt,hbtw,htb⟩ hhd hmp0 hmbge;exact yW15a6
    ·go_simp;have hmp0:zdC 222 litP domP (z.alloc (.map #[] 0)) z.heap.size 0 (fun _=>fV):=zdC.made z;have h:Ext z (z.alloc (.map #[] 0)):=(cY _).alloc _;obtain⟨x,r⟩:∃ x,Hid (x=z.heap.size):=⟨_,rfl⟩;have hmbge:w.heap.size<=x:=by have:=g.size;have:=r.out;omega
     have f:=g.trans h;rw [<- r.out] at hmp0 ⊢;refine hK.out _ _ f ?_;generalize z.alloc (.map #[] 0)=H at *;refine pT ?_;replace hmv:=hmv.ext h;replace htb:=zi htb h;refine ze fun K hK=>?_;go_simp;refine (zaf (diff s.al.toNat L) D _).mono ?_;rintro e u ⟨HA,hc,rfl,hhd,hy13⟩;have hbhd:w.heap.size<=H.heap.size:=oH f.size;have hxw13:=f.trans hy13;refine hK.out _ _ hxw13 ?_;refine pT ?_;replace hmv:=hmv.ext hy13;replace htb:=zi htb hy13;replace hmp0:=hmp0.ext hy13;refine uQ ?_;refine zb fun K hK=>?_;have zkk:=ns_fin (A:=A) (n:=n) (c:=c) (d:=d) (d':=d') Hs.out Hp.out hL64 HP0.out h0 hhi Htab.out hw1 hxw13 hmvw hbhd hmv ⟨bt,hbtw,htb⟩ hhd hmp0 hmbge;exact yW15a6
   ·go_simp;have hmp0:zdC 222 litP domP (I.alloc (.map #[] 0)) I.heap.size 0 (fun _=>fV):=zdC.made I;have h:Ext I (I.alloc (.map #[] 0)):=(cY _).alloc _;obtain⟨x,r⟩:∃ x,Hid (x=I.heap.size):=⟨_,rfl⟩;have hmbge:w.heap.size<=x:=by have:=o.size;have:=r.out;omega
    have f:=o.trans h;rw [<- r.out] at hmp0 ⊢;refine hK.out _ _ f ?_;generalize I.alloc (.map #[] 0)=H at *;refine pT ?_;replace hmv:=hmv.ext h;refine ze fun K hK=>?_;go_simp;refine (zch (HP.out _ f) Hp.out).mono ?_;rintro e z ⟨RA,rc,rfl,⟨bt,aa,htb⟩,t⟩;have hbtw:w.heap.size<=bt:=oH f.size;have g:=f.trans t;refine hK.out _ _ g ?_;refine pT ?_;replace hmv:=hmv.ext t;replace hmp0:=hmp0.ext t;refine ze fun K hK=>?_;go_simp;refine (zaf (diff s.al.toNat L) D _).mono ?_;rintro e u ⟨HA,hc,rfl,hhd,hy13⟩;have hbhd:w.heap.size<=z.heap.size:=oH g.size;have hxw13:=g.trans hy13;refine hK.out _ _ hxw13 ?_;refine pT ?_;replace hmv:=hmv.ext hy13;replace hmp0:=hmp0.ext hy13;exact yW15a3
  ·go_simp;have hmp0:zdC 222 litP domP (R.alloc (.map #[] 0)) R.heap.size 0 (fun _=>fV):=zdC.made R;have h:Ext R (R.alloc (.map #[] 0)):=(cY _).alloc _;obtain⟨x,r⟩:∃ x,Hid (x=R.heap.size):=⟨_,rfl⟩;have hmbge:w.heap.size<=x:=by have:=v.size;have:=r.out;omega
   have f:=v.trans h;rw [<- r.out] at hmp0 ⊢;refine hK.out _ _ f ?_;generalize R.alloc (.map #[] 0)=H at *;refine pT ?_;refine ze fun K hK=>?_;go_simp;refine (zex (HS.out _ f) J.out).mono ?_;rintro e I ⟨mv,rfl,O,hmv,E⟩;have hmvw:w.heap.size<=mv:=oH f.size;have o:=f.trans E;refine hK.out _ _ o ?_;refine pT ?_;replace hmp0:=hmp0.ext E;refine ze fun K hK=>?_;go_simp;refine (zch (HP.out _ o) Hp.out).mono ?_;rintro e z ⟨RA,rc,rfl,⟨bt,aa,htb⟩,t⟩;have hbtw:w.heap.size<=bt:=oH o.size;have g:=o.trans t;refine hK.out _ _ g ?_;refine pT ?_;replace hmp0:=hmp0.ext t;replace hmv:=hmv.ext t;refine ze fun K hK=>?_;go_simp;refine (zaf (diff s.al.toNat L) D _).mono ?_;rintro e u ⟨HA,hc,rfl,hhd,hy13⟩;have hbhd:w.heap.size<=z.heap.size:=oH g.size;have hxw13:=g.trans hy13;refine hK.out _ _ hxw13 ?_;refine pT ?_;replace hmp0:=hmp0.ext hy13;replace hmv:=hmv.ext hy13;exact yW15a3
 case rest =>
  obtain⟨F,rfl,aq,hN⟩:=hcut;obtain⟨ad,rfl,rfl,rfl,an,Z,ab,ae,aw⟩:=hN;have V:zeL F [] (fun _ _ => -1) 0 (fun _=>fV) (fC fV 0 0) (fC fV 0 0) (fC fV 0 0) wc:=by
   refine⟨by rw [ae];exact Frm.refl _ _,Z,World.ownsRow_nil _ _ _ _,World.ownsRow_nil _ _ _ _,World.ownsRow_nil _ _ _ _,ab,NumI.nil,dD _,fun T hT=>by simp at hT⟩
  have M:=za V;have y:=za ad;have S:=za (T00_ws (p:=F.p) oM);clear V ad Z ab ae;go_wp2_with (first
   |(go_at_call 197;refine (sf_close (T0:=T00) y.out M.out S.out).mono ?_;rintro e w2 ⟨U,rfl,hU,Q⟩)
   |(go_at_call 196;refine (sf_add (U:=U) y.out (M.out.ext y.out Q) ⟨hU.1,hU.2.1,fun i q hb=>ziD Hp.out (fun q i hb=>S.out.row i q hb) ((hU.2.2 i q).1 hb)⟩ dM).mono ?_;rintro e I ⟨j,aH,aP,k',M',az,ay,aA,rfl,ar,ap,aj,au⟩))
  go_ret;rcases ar with ⟨rfl,rfl⟩|⟨rfl,rfl⟩
  ·simp at ap
  have Y:zaP U 12 (PR F.s F.p F.L []):=by
   rw [PR_nil,<- zfC.eq];exact hU
  have hI:SfI F.s F.p F.L ([]++[U]) (fun k l=>if k=([]:List (List Nat)).length then -1 else (fun _ _=>(-1:Int)) k l):=
   ⟨fun T hT=>by
    obtain rfl:T=U:=by simpa using hT
    exact start_ws Y Hp.out oM,⟨U,rfl,Y⟩,fun k l _ _=>.inl (by dsimp only;split<;>rfl)⟩
  refine⟨F,_,rfl,y.out,rfl,rfl,rfl,aq,an,⟨_,_,k',M',az,ay,aA,hI,aj,sM,rfl⟩,(aw.trans Q).frm au.frm (fun q hq hs=>?_)⟩;have:=(M.out.ext y.out Q).low0 y.out hs;omega
end
section
variable {w W:jX}{lo hi n c m d m' d' L:Nat}{A B B':Option Addr}{s:Sys}{p:Aut}
theorem zfe (hS:zU w lo hi A n s)(hP:zJ w lo hi B m B' m' p)(hv:zk s=jU)(hp:zj p=jU)(hL:L<64) :
  j6 j3 105 #[j2 #[s.al,s.st,fC A n c,p.al,fC B m d,fC B' m' d',L]] w fun e w'=>e=j5 (.bool jU)/\Ext w w':=by
 have h:=za (fun W (hW:Ext w W)=>zaH (c:=c) (hS.ext hW));have g:=za (fun W (hW:Ext w W)=>zP _ _ _ _ d _ _ d' _ _ (hP.ext hW));rw [hv] at h;rw [hp] at g;have hal:=za (show (decide ((0:Int)<=L/\(L:Int)<=63))=jU by simp;omega);clear hS hP hv hp
 go_enter Tryz.func105,Tryz.ntmps105
 go_upto_region 1 with fail
 generalize U0:w.alloc _=k at *;obtain⟨hw1,i⟩:=gH U0;clear U0;have l:=i.cells;have j:=cY k;go_wp2_with (first
  |(go_at_call 65;refine (h.out _ hw1).mono (mQ fun o a=>?_))
  |(go_at_call 25;refine (g.out _ (hw1.trans a)).mono (mQ fun q f=>?_);have b:=a.trans f)
  |(go_at_call 82;refine (zaD _ _).mono ?_;rw [hal.out];rintro e w4 ⟨rfl,rfl⟩))
 go_ret;exact⟨rfl,hw1.trans b⟩
theorem zeZ (hS:zU w lo hi A n s)(hP:zJ w lo hi B m B' m' p)(hv:zk s=jU)(hp:zj p=jU)(hL:L<64) :
  j6 j3 118 #[j2 #[j7 j1,(0:Int),(),(),s.al,s.st,fC A n c,p.al,fC B m d,fC B' m' d',L]] w fun e w'=>e=j5 (.int iX L)/\Ext w w':=by
 have b:=za (fun W (hW:Ext w W)=>zfe (c:=c) (d:=d) (d':=d') (hS.ext hW) (hP.ext hW) hv hp hL);clear hS hP hv hp
 go_enter Tryz.func118,Tryz.ntmps118
 go_upto_region 1 with fail
 generalize U0:w.alloc _=h at *;obtain⟨hw1,f⟩:=gH U0;clear U0;have i:=f.cells;have g:=cY h;go_wp2_with (go_at_call 105;refine (b.out _ hw1).mono (mQ fun j a=>?_))
 go_ret;exact⟨rfl,hw1.trans a⟩
theorem sf_orc {F:Sfx}(hF:zij F):zhk F.lo F.L (zu F.s F.p F.L) (SafJ F) 122 (.pointer (fU ⟨F.G,0,fV⟩)) where
 ok:=SafJ.ok hF
 in_:=fun args W=>kM
 ask:=fun B W S x hJ hB hx hxs=>sf_safe hF hJ hB hx hxs
def RetOr (s:Sys) (p:Aut) (L z:Nat) (w:jX) (e:Ending) (w':jX):Prop:=
 ∃ (F:Sfx) (S:Nat->Prop),e=j5 (.tuple #[orcV L 122 (.pointer (fU ⟨F.G,0,fV⟩)),j7 jU])/\zij F/\F.s=s/\F.p=p/\F.L=L/\F.lo=z/\w.heap.size<=F.b0/\SafJ F 0 w' S/\Ext w w'
theorem SafJ.low0 {F:Sfx}(hF:zij F){B:Nat}(h:SafJ F B W S){j:Nat}(hj:S j):F.b0<=j:=by
 obtain⟨b,f,k,M,i,g,l,c,a,d,rfl⟩:=h;exact a.low0 hF hj
theorem ziq (h0:Ext w0 w)(hS:zU w lo hi A n s)(hP:zJ w lo hi B m B' m' p)(hv:zk s=jU)(hp:zj p=jU)(hL:L<64)(hhi:hi<=w0.heap.size)(hT:Tab w0) :
  j6 j3 49 #[j2 #[j7 j1,(0:Int),(),(),s.al,s.st,fC A n c,p.al,fC B m d,fC B' m' d',L]] w (RetOr s p L w0.heap.size w):=by
 have U:=za (fun W (hW:Ext w W)=>zeZ (c:=c) (d:=d) (d':=d') (hS.ext hW) (hP.ext hW) hv hp hL);have V:=za (fun W (hW:Ext w W)=>zff (c:=c) (d:=d) (d':=d') (h0.trans hW) (hS.ext hW) (hP.ext hW) hv hp hL hhi hT);clear hS hP hv hp;have ab:¬ ((L:Int)<0):=oM
 go_enter Tryz.func49,Tryz.ntmps49
 go_upto_region 1 with fail
 generalize U0:(w.alloc _).alloc _=Q at *;obtain⟨hw1,Y,Z⟩:=Ext.x2_ U0;have ad:w.heap.size+1<Q.heap.size:=by rw [<- U0];simp
 clear U0;have T:∀ X,Ext Q X->∀ q,X.cell? ⟨w.heap.size,q,fV⟩=#[j7 j1,.int iX 0,fC fV 0 0,fC fV 0 0,.int iX s.al,.int iX s.st,fC A n c,.int iX p.al,fC B m d,fC B' m' d',.int iX L][q]?:=fun X hX=>(Y.ext hX).cell;have ae:=cY Q;have aa:=h0.size;go_upto_region 99 with (go_at_call 118;refine (U.out _ hw1).mono (mQ fun w2 g=>?_))
 refine (V.out _ (hw1.trans g)).mono ?_;rintro e x ⟨F,S,rfl,f,o,l,k,b,I,y,O⟩;have h:=g.trans O;have a:=Z.ext h;have k2:=a.cell;have f2:=a.frozen;have H:=za f;have HJ:=za y;have E:=za o;have D:=za l;have z:=za k;have j:=za b;have C:=za (show w.heap.size<=F.b0 by have:=g.size;have:=hw1.size;omega);have r:¬ S (w.heap.size+1):=fun hs=>by
  have h1:=SafJ.low0 f y hs;have h2:=g.size;omega
 have M:=(dG x (w.heap.size+1) 0 (.int iX (L:Int))).trans (dG _ (w.heap.size+1) 1 (.func (.func 122) #[kB (fU ⟨F.G,0,fV⟩)] #[]));have J:=za ((SafJ.ok f).keep y M (fun q _ e=>by have R:q=w.heap.size+1:=e;rw [R,b];exact⟨oM,r⟩));have u:=za ((hw1.trans h).frm M (fun q hq e=>by have R:q=w.heap.size+1:=e;omega));have t:=(a.ae 0 (.int iX (L:Int))).ae 1 (.func (.func 122) #[kB (fU ⟨F.G,0,fV⟩)] #[]);have cf:∀ i,((x.setCell ⟨w.heap.size+1,0,fV⟩ (.int iX (L:Int))).setCell ⟨w.heap.size+1,1,fV⟩ (.func (.func 122) #[kB (fU ⟨F.G,0,fV⟩)] #[])).cell? ⟨w.heap.size+1,i,fV⟩=#[Value.int iX (L:Int),.func (.func 122) #[kB (fU ⟨F.G,0,fV⟩)] #[]][i]?:=fun i=>by
  have:=t.cell i;simpa using this
 have hst:(store ⟨w.heap.size+1,1,fV⟩ (.func (.func 122) #[kB (fU ⟨F.G,0,fV⟩)] #[])).run j3 (x.setCell ⟨w.heap.size+1,0,fV⟩ (.int iX (L:Int)))=.ok () ((x.setCell ⟨w.heap.size+1,0,fV⟩ (.int iX (L:Int))).setCell ⟨w.heap.size+1,1,fV⟩ (.func (.func 122) #[kB (fU ⟨F.G,0,fV⟩)] #[])):=by
  rw [run_store _ _ _ _ _ rfl];have h1:=a.ae 0 (.int iX (L:Int));rw [h1.cell,h1.frozen];rfl
 clear f y o l k b I r M t a T;go_wp2_with fail
 clear k2 f2;generalize (x.setCell ⟨w.heap.size+1,0,fV⟩ (.int iX (L:Int))).setCell ⟨w.heap.size+1,1,fV⟩ (.func (.func 122) #[kB (fU ⟨F.G,0,fV⟩)] #[])=w9 at *;exact bodyPost_ret (v:=.tuple #[orcV L 122 (.pointer (fU ⟨F.G,0,fV⟩)),j7 jU]) (by simp [results,Tryz.results49,go_sem,cf]) rfl ⟨F,S,rfl,H.out,E.out,D.out,z.out,j.out,C.out,J.out,u.out⟩
end
section
variable {w:jX}{lo hi n c lo1 hi1 m d m' d' lo2 hi2 k c2:Nat}{A B B' C:Option Addr}{s t:Sys}{p:Aut}
theorem impl_TaskOf (hs:zU w lo hi A n s)(hp:zJ w lo1 hi1 B m B' m' p)(ht:zU w lo2 hi2 C k t)(hif:iface s p t=(L:Int))(hn:n<=1000000) :
  j6 j3 39 #[j2 #[s.al,s.st,fC A n c],j2 #[p.al,fC B m d,fC B' m' d'],j2 #[t.al,t.st,fC C k c2]] w (zjg w s p L):=by
 obtain⟨vs,Z,vt⟩:=zbo (show 0<=iface s p t by omega);have hL:L<64:=by
  rw [zdJ vs Z vt] at hif;have h1:=zab vt;have h2:((s.al.toNat|||p.al.toNat)&&&t.al.toNat)<=t.al.toNat:=Nat.and_le_right;omega
 have J:=za (fun W (hW:Ext w W)=>zcD (c:=c) (d1:=d) (d1':=d') (c2:=c2) (hs.ext hW) (hp.ext hW) (ht.ext hW));rw [hif] at J;have HK:=za (fun W (hW:Ext w W)=>clone_edge (c:=c) (hs.2.ext hW) oM);have HC:=za (fun W (hW:Ext w W)=>zfP (c:=d) (c':=d') (hp.ext hW) (zea Z));have hV:=za (And.intro vs (And.intro Z hL));have ah:=za hs.1;clear hs hp ht hif vs Z vt;obtain⟨w0,U0⟩:∃ x,Hid ((((w.alloc (.cells #[s.al,s.st,fC A n c] 38)).alloc (.cells #[p.al,fC B m d,fC B' m' d'] 27)).alloc (.cells #[t.al,t.st,fC C k c2] 38)).alloc (.cells #[(0:Int),(0:Int),(),(0:Int),(),(),(0:Int)] 70)=x):=⟨_,za rfl⟩;have G:Ext w w0:=(((((cY _).alloc _).alloc _).alloc _).alloc _).trans (e6 U0.out);obtain⟨b1,b2,b3⟩:=zK (((cY _).alloc (.cells #[(0:Int),(0:Int),(),(0:Int),(),(),(0:Int)] 70)).trans (e6 U0.out));have b4:=eA U0.out;simp only [World.size_alloc] at b4;have aF:¬ ((L:Int)<0):=oM
 go_enter Tryz.func39,Tryz.ntmps39
 go_upto_region 1 with fail
 rw [U0.out] at *;have k1:=b1.cell;have k2:=b2.cell;have k3:=b3.cell;go_upto_region 4 with (go_at_call 83;refine (J.out _ G).mono (mQ fun w1 i=>?_))
 have H:=G.trans i;have E:=b1.ext i;have k1:=E.cell;go_upto_region 99 with fail
 refine (HK.out _ H).mono ?_;rintro e w2 ⟨v',rfl,Y,u⟩;obtain⟨g,h,rfl⟩:=zh Y;have l:=E.ext u;have k1:=l.cell;have f1:=l.frozen;have O:=b4.ext (i.trans u);have M:=b2.ext (i.trans u);go_upto_region 5 with fail
 have F:=dG w2 w.heap.size 2 (fC g n h);have o:Ext w (w2.setCell ⟨w.heap.size,2,fV⟩ (fC g n h)):=(H.trans u).frm F (fun q hq e=>by have e':q=w.heap.size:=e;omega);have ab:Blk (w2.setCell ⟨w.heap.size,2,fV⟩ (fC g n h)) w.heap.size 38 #[.int iX s.al,.int iX s.st,fC g n h]:=by simpa using l.ae 2 (fC g n h)
 have Q:=O.far (p:=⟨w.heap.size,2,fV⟩) (by show w.heap.size+1+1+1≠w.heap.size;omega) (fC g n h);have ad:=M.far (p:=⟨w.heap.size,2,fV⟩) (by show w.heap.size+1≠w.heap.size;omega) (fC g n h);have ay:=H.size;have ax:=G.size;have au:=b4.lt;have aw:=i.size;have T:=zf Y F (fun b hb e=>zL Y l dM hb e);clear k1 f1 k2 k3 E l O M F Y;generalize w2.setCell ⟨w.heap.size,2,fV⟩ (fC g n h)=I at *;have C1:∀ X,Ext I X->∀ q,X.cell? ⟨w.heap.size,q,fV⟩=#[Value.int iX s.al,.int iX s.st,fC g n h][q]?:=fun X hX=>(ab.ext hX).cell;have C2:∀ X,Ext I X->∀ q,X.cell? ⟨w.heap.size+1,q,fV⟩=#[Value.int iX p.al,fC B m d,fC B' m' d'][q]?:=fun X hX=>(ad.ext hX).cell;have V:=cY I;refine uR (fun X=>Ext I X) [5] (zy.of [0,1,3,2,4,5,6]) ?_;refine uQ ?_;refine ze fun K hK=>?_;go_simp;refine (HC.out _ (o.trans V.drew)).mono ?_;rintro e w4 ⟨r,y,d1,a,f,d1',rfl,S,ai⟩;have j:=V.drew.trans ai;refine hK.out _ _ j ?_;refine pT ?_;refine uQ ?_;have bz:=Q.ext j;have kz:=bz.cell;have fz:=bz.frozen;have U:=zi T j;have av:=bz.lt;have ar:=j.size;have aD:=o.size;have D:zU w4 (w.heap.size+1+1+1+1) w4.heap.size g n s:=⟨ah.out,(Reads.af U).more oM (dD _)⟩;have ag:=Q.lt;have aG:I.drew.heap.size=I.heap.size:=rfl;have z:zJ w4 (w.heap.size+1+1+1+1) w4.heap.size r y a f p:=(S.reads).more oM (dD _);have R:Frm (fun k=>k=w.heap.size+1+1+1) w4 (((((((w4.setCell ⟨w.heap.size+1+1+1,0,fV⟩ s.al).setCell ⟨w.heap.size+1+1+1,1,fV⟩ s.st).setCell ⟨w.heap.size+1+1+1,2,fV⟩ (fC g n h)).setCell ⟨w.heap.size+1+1+1,3,fV⟩ p.al).setCell ⟨w.heap.size+1+1+1,4,fV⟩ (fC r y d1)).setCell ⟨w.heap.size+1+1+1,5,fV⟩ (fC a f d1')).setCell ⟨w.heap.size+1+1+1,6,fV⟩ L):=
  ((((((dG w4 _ 0 _).trans (dG _ _ 1 _)).trans (dG _ _ 2 _)).trans (dG _ _ 3 _)).trans (dG _ _ 4 _)).trans (dG _ _ 5 _)).trans (dG _ _ 6 _)
 have bW:Blk (((((((w4.setCell ⟨w.heap.size+1+1+1,0,fV⟩ s.al).setCell ⟨w.heap.size+1+1+1,1,fV⟩ s.st).setCell ⟨w.heap.size+1+1+1,2,fV⟩ (fC g n h)).setCell ⟨w.heap.size+1+1+1,3,fV⟩ p.al).setCell ⟨w.heap.size+1+1+1,4,fV⟩ (fC r y d1)).setCell ⟨w.heap.size+1+1+1,5,fV⟩ (fC a f d1')).setCell ⟨w.heap.size+1+1+1,6,fV⟩ L) (w.heap.size+1+1+1) 70 #[.int iX s.al,.int iX s.st,fC g n h,.int iX p.al,fC r y d1,fC a f d1',.int iX L]:=by
  simpa using ((((((bz.ae 0 (.int iX s.al)).ae 1 (.int iX s.st)).ae 2 (fC g n h)).ae 3 (.int iX p.al)).ae 4 (fC r y d1)).ae 5 (fC a f d1')).ae 6 (.int iX L)
 refine zb fun K hK=>?_;go_simp;generalize (((((((w4.setCell ⟨w.heap.size+1+1+1,0,fV⟩ s.al).setCell ⟨w.heap.size+1+1+1,1,fV⟩ s.st).setCell ⟨w.heap.size+1+1+1,2,fV⟩ (fC g n h)).setCell ⟨w.heap.size+1+1+1,3,fV⟩ p.al).setCell ⟨w.heap.size+1+1+1,4,fV⟩ (fC r y d1)).setCell ⟨w.heap.size+1+1+1,5,fV⟩ (fC a f d1')).setCell ⟨w.heap.size+1+1+1,6,fV⟩ L)=X at *;have hret:=za (show zjg w s p L (j5 (.tuple #[j2 #[s.al,s.st,fC g n h,p.al,fC r y d1,fC a f d1',L],j7 jU])) X from
  ⟨g,n,h,r,y,d1,a,f,d1',rfl,⟨⟨w.heap.size+1+1+1+1,w4.heap.size,D.frm R (fun k h1 h2 e=>oM),z.frm R (fun k h1 h2 e=>oM),R.size⟩,hV.out.1,hV.out.2.1,hV.out.2.2⟩,(o.trans j).frm R (fun k hk e=>oM)⟩)
 have cf:=bW.cell;clear R bW D z kz fz bz U S T;refine hK.out _ _ ?_;clear hK;refine pT ?_;refine uQ ?_;refine zg ?_;go_wp2_with fail
 exact bodyPost_ret (v:=.tuple #[j2 #[s.al,s.st,fC g n h,p.al,fC r y d1,fC a f d1',L],j7 jU]) (by simp [results,Tryz.results39,go_sem,cf]) rfl hret.out
end
theorem noA_own (W:jX) (base:Nat):zac W base fV 0 0 fV 0 0 noA:=⟨⟨[],World.ownsRow_nil _ _ _ _,zB.nil _ _⟩,rfl,World.ownsRow_nil _ _ _ _,rfl⟩
section
variable {w:jX}{lo1 hi1 lo2 hi2 k c2 k1 d1 k1' d1':Nat}{C X X':Option Addr}{t:Sys}{a:Aut}
theorem zft (ht:zU w lo2 hi2 C k t)(ha:zJ w lo1 hi1 X k1 X' k1' a)(hT:Tab w) :
  j6 j3 161 #[j2 #[t.al,t.st,fC C k c2],j2 #[a.al,fC X k1 d1,fC X' k1' d1']] w fun e w'=>e=j5 (.tuple #[kA (zaq [t] a),j7 (zbB [t] a)])/\Ext w w':=by
 have n:=za (fun W (hW:Ext w W)=>ht.ext hW);have j:=za (fun W (hW:Ext w W)=>ha.ext hW);have l:=za (fun W (hW:Ext w W)=>hT.ext hW);clear ht ha hT
 go_enter Tryz.func161,Tryz.ntmps161
 go_upto_region 1 with fail
 generalize U0:(w.alloc _).alloc _=i at *;obtain⟨d,o,p⟩:=Ext.x2_ U0;clear U0;have u:=o.cell;have b:=(cY i).alloc (.cells #[t.al,t.st,fC C k c2] 38);have h:=dZ i 38 #[t.al,t.st,fC C k c2];obtain⟨s,r,f⟩:=ziX h (n.out _ (d.trans b));have q:=(p.ext b).cell;have m:=za (zbP (c:=1) (d2:=d1) (d2':=d1') f (j.out _ (d.trans b)) (l.out _ (d.trans b)));clear f h;go_wp2_with fail
 refine m.out.mono (mQ fun v g=>?_);go_wp2_with fail
 go_ret2;exact⟨rfl,(d.trans b).trans g⟩
end
section
variable {w:jX}{lo hi n c lo1 hi1 m d m' d' lo2 hi2 k c2:Nat}{A B B' C:Option Addr}{s t:Sys}{p:Aut}
theorem zhs {P:Program}(w:jX) (d:Nat) (t:TypeId){ps rs:Array TypeId}{v:Bool}(h:P.underlying t=fU (.func ps rs v)):(Op.equalIn (d+1) t .nilFunc .nilFunc).run P w=.ok jU w:=by
 simp [Op.equalIn,run_underlying h]
@[go_sem] theorem neq_nilFunc {P:Program}(w:jX) (t:TypeId){ps rs:Array TypeId}{v:Bool}(h:P.underlying t=fU (.func ps rs v)):(binOp .neq t .nilFunc .nilFunc).run P w=.ok (.bool j1) w:=by
 simp only [binOp];simp [show (Op.equal t .nilFunc .nilFunc).run P w=.ok jU w from zhs w 9999 t h]
@[go_sem] theorem neq_nilFuncP (w:jX):(binOp .neq 197 .nilFunc .nilFunc).run j3 w=.ok (.bool j1) w:=neq_nilFunc w _ rfl
theorem store_func (kn:Nat) (rc:j4) (X:jX) (g:Nat)(h1:(X.cell? ⟨g,1,fV⟩).isSome=jU)(h2:X.frozen? ⟨g,1,fV⟩=j1):(store ⟨g,1,fV⟩ (.func (.func kn) #[rc] #[])).run j3 X=.ok () (X.setCell ⟨g,1,fV⟩ (.func (.func kn) #[rc] #[])):=by
 rw [run_store _ _ _ _ _ rfl];obtain⟨u,a⟩:=Option.isSome_iff_exists.1 h1;rw [a,h2];rfl
theorem vd_fin {a0 a1 a2 a3 a4 a5:j4}(hx:Ext w W)(hb:Blk W Z 42 #[a0,a1,a2,a3,a4,a5])(hZ:w.heap.size<=Z) (u0 u1 u2 u3 u4 u5:j4) :
  Blk ((((((W.setCell Z u0).setCell ⟨Z,1,fV⟩ u1).setCell ⟨Z,2,fV⟩ u2).setCell ⟨Z,3,fV⟩ u3).setCell ⟨Z,4,fV⟩ u4).setCell ⟨Z,5,fV⟩ u5) Z 42 #[u0,u1,u2,u3,u4,u5] /\
  Frm (fun k=>k=Z) W ((((((W.setCell Z u0).setCell ⟨Z,1,fV⟩ u1).setCell ⟨Z,2,fV⟩ u2).setCell ⟨Z,3,fV⟩ u3).setCell ⟨Z,4,fV⟩ u4).setCell ⟨Z,5,fV⟩ u5) /\
  Ext w ((((((W.setCell Z u0).setCell ⟨Z,1,fV⟩ u1).setCell ⟨Z,2,fV⟩ u2).setCell ⟨Z,3,fV⟩ u3).setCell ⟨Z,4,fV⟩ u4).setCell ⟨Z,5,fV⟩ u5):=by
 have a:=zhL W Z u0 u1 u2 u3 u4 u5;exact⟨by simpa using (((((hb.ae 0 u0).ae 1 u1).ae 2 u2).ae 3 u3).ae 4 u4).ae 5 u5,a,hx.frm a (fun q hq e=>by have b:q=Z:=e;omega)⟩
def TabV3 (W:jX) (S:Nat->Prop) (base g:Nat) (o:Option (List ByteArray × List ByteArray)):Prop:=
 ¬ S g/\((o=fV/\∃ u v,Blk W g 90 #[u,v])\/∃ (rs cs:List ByteArray) (R C:Option Addr) (cr cc:Nat),o=fU (rs,cs)/\Blk W g 90 #[fC R rs.length cr,fC C cs.length cc]/\zgW W S base R rs.length cr C cs.length cc rs cs)
theorem zjc {base' cr2 cc2:Nat}{R2 C2:Option Addr}{u:j4}{rs2 cs2:List ByteArray}(hb:Blk W g 90 #[u,v])(hg:¬ S g)(ht:zgW W S base' R2 rs2.length cr2 C2 cs2.length cc2 rs2 cs2)(h1:base<=base')(h2:g<base') :
  TabV3 ((W.setCell g (fC R2 rs2.length cr2)).setCell ⟨g,1,fV⟩ (fC C2 cs2.length cc2)) S base g (fU (rs2,cs2)):=by
 have i:=(ht.r.frm (dG W g 0 (fC R2 rs2.length cr2)) (fun b hb e=>by have:=(ht.r.own.lt b hb).1;have f:b=g:=e;omega));have h:=(ht.c.frm (dG W g 0 (fC R2 rs2.length cr2)) (fun b hb e=>by have:=(ht.c.own.lt b hb).1;have f:b=g:=e;omega));have d:=(i.frm (dG _ g 1 (fC C2 cs2.length cc2)) (fun b hb e=>by have:=(i.own.lt b hb).1;have f:b=g:=e;omega));have a:=(h.frm (dG _ g 1 (fC C2 cs2.length cc2)) (fun b hb e=>by have:=(h.own.lt b hb).1;have f:b=g:=e;omega));exact⟨hg,.inr ⟨rs2,cs2,R2,C2,cr2,cc2,rfl,by simpa using (hb.ae 0 (fC R2 rs2.length cr2)).ae 1 (fC C2 cs2.length cc2),⟨⟨zm d.own h1,d.far⟩,⟨zm a.own h1,a.far⟩⟩⟩⟩
theorem zhy (hs:zU w lo hi A n s)(hp:zJ w lo1 hi1 B m B' m' p)(ht:zU w lo2 hi2 C k t)(hif:iface s p t=(L:Int))(hn:n<=1000000)(hT:Tab w) :
  j6 j3 72 #[j2 #[s.al,s.st,fC A n c],j2 #[t.al,t.st,fC C k c2],j2 #[p.al,fC B m d,fC B' m' d'],.nilFunc] w (zjh w (vpT s t p)):=by
 obtain⟨vs,vp,vt⟩:=zbo (show 0<=iface s p t by omega);have cj:=za (fun W (hW:Ext w W)=>impl_TaskOf (c:=c) (d:=d) (d':=d') (c2:=c2) (hs.ext hW) (hp.ext hW) (ht.ext hW) hif hn);have HS:=za (fun W (hW:Ext w W)=>hs.ext hW);have HP:=za (fun W (hW:Ext w W)=>hp.ext hW);have ck:=za (fun W (hW:Ext w W)=>ht.ext hW);have ci:=za (fun W (hW:Ext w W)=>show j6 j3 30 #[fC (fU W.heap.size) 2 2,j2 #[p.al,fC B m d,fC B' m' d']] (W.alloc (.cells #[s.al,s.st,fC A n c,t.al,t.st,fC C k c2] 38)) (fun e w'=>e=j5 (.tuple #[kA (zaq [s,t] p),j7 (zbB [s,t] p)])/\Ext W w') from by
  have f6:=(cY W).alloc (.cells #[s.al,s.st,fC A n c,t.al,t.st,fC C k c2] 38);obtain⟨l1,l2,cG⟩:=sl_pair (dZ W 38 #[s.al,s.st,fC A n c,t.al,t.st,fC C k c2]) (hs.ext (hW.trans f6)) (ht.ext (hW.trans f6));exact (zbP cG (hp.ext (hW.trans f6)) (hT.ext (hW.trans f6))).mono (fun e w' h=>⟨h.1,f6.trans h.2⟩))
 have cI:=za (zif hif);have Htab:=za hT;clear hs hp ht hT
 go_enter Tryz.func72,Tryz.ntmps72
 go_upto_region 1 with fail
 obtain⟨w1,U0⟩:∃ x,Hid ((((w.alloc (.cells #[s.al,s.st,fC A n c] 38)).alloc (.cells #[t.al,t.st,fC C k c2] 38)).alloc (.cells #[p.al,fC B m d,fC B' m' d'] 27)).alloc (.cells #[(0:Int),(0:Int),(),(),kA ⟨#[]⟩,(0:Int)] 42)=x):=⟨_,za rfl⟩;obtain⟨b4,b5,b6⟩:=zK (((cY _).alloc (.cells #[(0:Int),(0:Int),(),(),kA ⟨#[]⟩,(0:Int)] 42)).trans (e6 U0.out));have b8:=eA U0.out;simp only [World.size_alloc] at b8;have aN:Ext w w1:=(((((cY _).alloc _).alloc _).alloc _).alloc _).trans (e6 U0.out);rw [U0.out] at *;have k4:=b4.cell;have k5:=b5.cell;have k6:=b6.cell;go_upto_region 4 with (go_at_call 39;refine (cj.out _ aN).mono ?_;rintro e w2 ⟨A1,n1,c1,B1,m1,d1,bo,bX,d1',rfl,cB,aW⟩)
 have aR:=cB.ext ((cY w2).alloc (.cells #[s.al,s.st,fC A1 n1 c1,p.al,fC B1 m1 d1,fC bo bX d1',L] 70));have M:=aW.trans ((cY w2).alloc (.cells #[s.al,s.st,fC A1 n1 c1,p.al,fC B1 m1 d1,fC bo bX d1',L] 70));generalize U0:w2.alloc _=w3 at *;have b9:=eA U0;clear U0;have k9:=b9.cell;obtain⟨dz,dw,cF,cE,cC⟩:=aR.at_;have hL:=aR.lt;have bQ:=za (ziq (c:=c1) (d:=d1) (d':=d1') (cY w3) cF cE vs vp hL cC (Htab.out.ext (aN.trans M)));have bR:=store_func (122);go_upto_region 5 with (go_at_call 49;refine bQ.out.mono ?_;rintro e w4 ⟨F,S0,rfl,cD,cz,cy,cx,bC,du,hJ,aX⟩)
 have S:=za (show zhk w3.heap.size L (zu s p L) (SafJ F) 122 (.pointer (fU ⟨F.G,0,fV⟩)) by
  have:=sf_orc cD;rwa [cz,cy,cx,bC] at this)
 have ag:=za (fun (q:Nat) (hq:w4.heap.size<=q)=>zbi.fresh S.out.ok hJ hq);generalize U0:w4.alloc _=w5 at *;obtain⟨ay,a1⟩:=gH U0;have bK:=S.out.ok.keep hJ ay (fun _ _ h=>h.elim);have O:=aX.trans ay;clear U0;have ae:=a1.cell;have bO:=za (or_newTable S.out bK oM O.size hL);have de:=aX.size;go_upto_region 99 with fail
 refine bO.out.mono ?_;rintro e w6 ⟨S6,aJ,U⟩;rcases U with ⟨bN,rfl⟩|⟨bi,a2,R0,C0,bz,bx,bP,rfl,bF⟩
 ·obtain⟨r,hr⟩:=zhG L (zu s p L);rw [hr] at bN;cases bN
 obtain⟨w7,U0⟩:∃ x,Hid (w6.alloc (.cells #[fC R0 bi.length bz,fC C0 a2.length bx] 90)=x):=⟨_,za rfl⟩;have i:=eA U0.out;have aY:Ext w6 w7:=((cY _).alloc _).trans (e6 U0.out);obtain⟨a5,l⟩:∃ g,Hid (g=w6.heap.size):=⟨_,za rfl⟩;have bE:=za (fun (q:Nat) (hq:w6.heap.size<=q)=>zbi.fresh S.out.ok aJ.j hq);go_upto_region 6 with fail
 rw [<- l.out] at i ⊢;rw [U0.out] at *;have u:=za (show ∀ q:Nat,S0 q->w3.heap.size<=q from fun q h=>by have:=S.out.ok.low bK q h;omega);have bL:=za ((aJ.ext S.out.ok aY).more S.out.ok (show 0+21840<=21840+30000*0 by omega));obtain⟨o0,aL⟩:∃ o0:Option (List ByteArray × List ByteArray),Hid ((zar L (zu s p L) [⟨#[]⟩] 11 [⟨#[]⟩]).map (fun r=>(r,[(⟨#[]⟩:ByteArray)]))=o0):=⟨_,za rfl⟩;have aw:o0=fU (bi,a2):=aL.out.symm.trans bP;have aS:=za (show LnOk L (zu s p L) 0 o0 by rw [<- aL.out];exact LnOk.start L (zu s p L));have aT:=za (show runT s t p L (12 - 0) 0 o0=vpT s t p by rw [cI.out,<- aL.out]);have aU:o0.isSome=jU:=by rw [aw];rfl
 have aV:=za (show TabV3 w7 S6 w5.heap.size a5 o0 from ⟨bE.out a5 (oH l.out),.inr ⟨bi,a2,R0,C0,bz,bx,aw,i,bF.ext aY⟩⟩);have dc:=aW.size;have dd:=M.size;have df:=ay.size;have dg:=aJ.size;have c5:=b4.lt;have c6:=b8.lt;have c7:=b9.lt;have B4:=za ((b4.ext M).ext O);have B5:=za ((b5.ext M).ext O);have B6:=za ((b6.ext M).ext O);have B8:=za ((b8.ext M).ext O);have B9:=za (b9.ext O);have aF:=za a1;have dv:w.heap.size<=w5.heap.size:=(aN.trans (M.trans O)).size;have aA:=za (aN.trans (M.trans O));clear k4 k5 k6 k9 ae b4 b5 b6 b8 b9 a1 bF i aJ bO bQ bR bP;go_wp2_with fail
 go_loopw [10,14,15,16,17,18,19,20] (fun v10 v14 _ _ _ _ _ _ wr=>∃ (r:Nat) (o:Option (List ByteArray × List ByteArray)) (S1:Nat->Prop),v10=.bool o.isSome/\v14=.int iX ((r:Int)+1)/\r<=12/\Hid (Kp (SafJ F) (21840+30000*r) S0 w5 wr S1)/\Hid (TabV3 wr S1 w5.heap.size a5 o)/\Hid (LnOk L (zu s p L) r o)/\Hid (runT s t p L (12 - r) r o=vpT s t p)) (fun _ v14 _ _ _ _ _ _ _=>14 - (intOf v14).toNat)
 case atStart=>exact⟨0,o0,S6,by rw [aU],rfl,dF _,bL,aV,aS,aT⟩
 case round =>
  clear bL aV aS aT aU aw aL;obtain⟨r,o,S1,rfl,rfl,hr,am,bS,aK,ba⟩:=hrel;have T:=am.out.blk B8.out (fun h=>by have:=u.out _ h;omega);cases o with
  |none =>
   have hv:=za (show vpT s t p=⟨2,noA,⟨#[]⟩,r⟩ by
    rw [<- ba.out];cases h12:12 - r with
    |zero=>rfl
    |succ f=>rfl)
   have k8:=T.1.cell;have f8:=T.1.frozen;go_wp2_with fail
   have cJ:Ext w wr:=aA.out.frm am.out.frm (fun q hq hs=>by have:=u.out q hs;omega);have zkk:=vd_fin cJ T.1 oM (.int iX 2) (.int iX 0) (fC fV 0 0) (fC fV 0 0) (.string ⟨#[]⟩) (.int iX r);have cf:=zkk.1.cell;have Hx:=za zkk.2.2;clear zkk k8 f8 T;generalize ((((((wr.setCell ⟨w.heap.size+1+1+1,0,fV⟩ (2:Int)).setCell ⟨w.heap.size+1+1+1,1,fV⟩ (0:Int)).setCell ⟨w.heap.size+1+1+1,2,fV⟩ ()).setCell ⟨w.heap.size+1+1+1,3,fV⟩ ()).setCell ⟨w.heap.size+1+1+1,4,fV⟩ (.string ⟨#[]⟩)).setCell ⟨w.heap.size+1+1+1,5,fV⟩ r)=X at *;exact bodyPost_ret (v:=j2 #[(2:Int),(0:Int),(),(),kA ⟨#[]⟩,r]) (by simp [results,Tryz.results72,go_sem,cf]) rfl (by
    rw [hv.out];exact⟨fV,0,0,fV,0,0,rfl,noA_own _ _,Hx.out⟩)
  |some tab =>
   obtain⟨rs,cs⟩:=tab;obtain⟨bJ,cA⟩:=bS.out;rcases cA with ⟨h0,_⟩|⟨dA,ds,R,C1,cr,cc,h0,a7,bd⟩
   ·cases h0
   obtain⟨rfl,rfl⟩:=Prod.mk.inj (j8 h0);obtain⟨hI,aH⟩:=aK.out.tab rs cs rfl;have c8:w5.heap.size<=wr.heap.size:=am.out.size;have a6:=za (zgD S.out am.out.j oM bd hI aH oM hL);have be:=za (zcS hI aH hL);obtain⟨a,bG⟩:∃ a,Hid (zcM L (zu s p L) rs cs=a):=⟨_,za rfl⟩;rw [bG.out] at a6 be;have k8:=T.1.cell;have f8:=T.1.frozen;have ar:=am.out.blk aF.out (ag.out _ (dD _));have ae:=ar.1.cell;have aD:=a7.cell;have bq:=za bd;have a0:=za a7;clear bS bd a7 h0;go_upto_region 11 with (go_at_call 51;refine a6.out.mono ?_;rintro e w8 ⟨S2,AA,aE,an,ac,ap,ai,rfl,bB,ak⟩)
   have a8:=am.out.trans ak;have hg9:=za (ak.out a0.out.lt bJ);have c4:=za (fun (q:Nat) (hq:w8.heap.size<=q)=>zbi.fresh S.out.ok a8.j hq);have c9:=ak.size;generalize U0:w8.alloc _=w9 at *;obtain⟨Q,au⟩:=gH U0;have ad:=za (a8.ext S.out.ok Q);have aq:=za (bB.ext Q);have aP:=za ((ak.blk a0.out bJ).1.ext Q);have aQ:=za ((bq.out.kp ak).ext Q);clear U0;have Z:=za (show Ext w w9 from ad.out.toExt aA.out (fun q hs=>by have:=u.out q hs;omega));have cl:=za (zcW (c:=c) (d1:=ac) (d1':=ai) (d2:=d) (d2':=d') (HS.out _ Z.out) aq.out.own_.reads (HP.out _ Z.out) (Htab.out.ext Z.out));have cg:=za (fun W (hW:Ext w9 W)=>zft (c2:=c2) (k1:=an) (d1:=ac) (k1':=ap) (d1':=ai) (ck.out _ (Z.out.trans hW)) (aq.out.own_.reads.ext hW) (Htab.out.ext (Z.out.trans hW)));have k4:=(ad.out.blk B4.out (fun h=>by have:=u.out _ h;omega)).1.cell;have k6:=(ad.out.blk B6.out (fun h=>by have:=u.out _ h;omega)).1.cell;have dy:=au.cell;have bp:=za (ad.out.blk B9.out (fun h=>by have:=u.out _ h;omega)).1;clear a6 bB ak a8 bq a0 k8 f8 T ae aD ar;go_upto_region 14 with (go_at_call 52;refine cl.out.mono (mQ fun cN Y=>?_))
   have db:r<12:=by have:=aK.out.more rs cs rfl;have:=hI.r12;omega
   have ah:=za (show (if (zaM s p t L a).2=0 then (⟨0,a,⟨#[]⟩,r+1⟩:Vd) else if (zaM s p t L a).2=1 then ⟨1,noA,zaq [s,t] p,r+1⟩ else runT s t p L (11 - r) (r+1) (zba L (zu s p L) rs cs (zaM s p t L a).1))=vpT s t p by
    rw [<- ba.out,show 12 - r=(11 - r)+1 by omega,runT,bG.out])
   clear ba;have bg:=za (zep vs be.out vp);have bf:=za (zcT (ss:=[t]) (p:=a) (by unfold zE;simp [vt]) be.out);have bI:=ad.out.blk B8.out (fun h=>by have:=u.out _ h;omega);have cX:=za (Z.out.trans Y);cases hub:zca s a p with
   |false =>
    have k5:=((ad.out.blk B5.out (fun h=>by have:=u.out _ h;omega)).1.ext Y).cell;have bw:=(au.ext Y).cell;go_upto_region 17 with (go_at_call 161;refine (cg.out _ Y).mono (mQ fun bY bU=>?_))
    have I:=Y.trans bU;have dt:=(au.ext I).cell;cases hbb:zbB [t] a with
    |false =>
     have hv:=za (show vpT s t p=⟨0,a,⟨#[]⟩,r+1⟩ by
      rw [<- ah.out];have hj:zaM s p t L a=(⟨#[]⟩,0):=by unfold zaM;rw [if_neg (by simp [hub]),if_neg (by simp [hbb])]
      rw [hj,if_pos rfl])
     have E:=bI.1.ext I;have k8:=E.cell;have f8:=E.frozen;clear bw;go_wp2_with fail
     have zkk:=vd_fin (Z.out.trans I) E oM (.int iX 0) (.int iX a.al) (fC AA an ac) (fC aE ap ai) (.string ⟨#[]⟩) (.int iX ((r:Int)+1));have cf:=zkk.1.cell;have Hx:=za zkk.2.2;have Ho:=za (((aq.out.own_.ext I).keep zkk.2.1 (fun b hb e=>by have e':b=w.heap.size+1+1+1:=e;omega)).less (show w.heap.size<=wr.heap.size by omega));clear zkk k8 f8 E;generalize ((((((bY.setCell ⟨w.heap.size+1+1+1,0,fV⟩ (0:Int)).setCell ⟨w.heap.size+1+1+1,1,fV⟩ a.al).setCell ⟨w.heap.size+1+1+1,2,fV⟩ (fC AA an ac)).setCell ⟨w.heap.size+1+1+1,3,fV⟩ (fC aE ap ai)).setCell ⟨w.heap.size+1+1+1,4,fV⟩ (.string ⟨#[]⟩)).setCell ⟨w.heap.size+1+1+1,5,fV⟩ (.int iX ((r:Int)+1)))=X at *;exact bodyPost_ret (v:=j2 #[(0:Int),a.al,fC AA an ac,fC aE ap ai,kA ⟨#[]⟩,((r:Int)+1:Int)]) (by simp [results,Tryz.results72,go_sem,cf]) rfl (by
      rw [hv.out];exact⟨AA,an,ac,aE,ap,ai,sM,Ho.out,Hx.out⟩)
    |true =>
     have aj:=za (show zaM s p t L a=(zbx (zaq [t] a) L,if zu s p L (zbx (zaq [t] a) L)=jU then -1 else 1) by unfold zaM;rw [if_neg (by simp [hub]),if_pos hbb]);have aB:=zcQ bf.out.1 L;have aC:(zbx (zaq [t] a) L).size<=4000:=by have:=zeT (zaq [t] a) L;have:=bf.out.2;simp only [fN,List.length_nil] at this;omega
     have ax:=za (zfS (s:=zaq [t] a) (a:=L) (w:=bY) bf.out.1 oM);have k9:=(bp.out.ext I).cell;obtain⟨z,hz⟩:∃ z,Hid (zbx (zaq [t] a) L=z):=⟨_,za rfl⟩;rw [hz.out] at aB aC aj ax;have aG:=za aB;clear bw;go_upto_region 20 with (go_at_call 53;refine ax.out.mono (mQ fun bZ af=>?_))
     have y:=I.trans af;have V:=za (ad.out.ext S.out.ok y);have bH:=za (S.out.ask _ bZ S2 z V.out.j oM aG.out oM);have ae:=(V.out.blk aF.out (ag.out _ (dD _))).1.cell;clear k9;go_upto_region 99 with fail
     refine bH.out.mono ?_;rintro e aO ⟨S4,rfl,aI⟩;have J:=za (V.out.trans aI);have az:=za (show Ext w aO from J.out.toExt aA.out (fun q hs=>by have:=u.out q hs;omega));have i:=aI.blk (aP.out.ext y) hg9.out;have cm:=za ((aQ.out.ext y).kp aI);have cH:=aI.size;cases hsf:zu s p L z with
     |false =>
      have hv:=za (show vpT s t p=⟨1,noA,zaq [s,t] p,r+1⟩ by
       rw [<- ah.out,aj.out,if_neg (show ¬ zu s p L z=jU by rw [hsf];decide),if_neg (show ¬ ((1:Int)=0) by decide),if_pos (show (1:Int)=1 from rfl)])
      have HP:=za (ci.out aO az.out);have k4:=(J.out.blk B4.out (fun h=>by have:=u.out _ h;omega)).1.cell;have k5:=(J.out.blk B5.out (fun h=>by have:=u.out _ h;omega)).1.cell;have bu:=(J.out.blk B6.out (fun h=>by have:=u.out _ h;omega)).1;have k6:∀ (v:Array j4) (q:Nat),(aO.alloc (.cells v 38)).cell? ⟨w.heap.size+1+1,q,fV⟩=_:=fun v q=>(bu.ext ((cY aO).alloc (.cells v 38))).cell q;have cq:=(J.out.blk B8.out (fun h=>by have:=u.out _ h;omega)).1;clear ae;go_upto_region 99 with fail
      refine HP.out.mono (mQ fun wF bV=>?_);have E:=cq.ext bV;have k8:=E.cell;have f8:=E.frozen;clear k4 k5 k6 bu;go_wp2_with fail
      have zkk:=vd_fin (az.out.trans bV) E oM (.int iX 1) (.int iX 0) (fC fV 0 0) (fC fV 0 0) (.string (zaq [s,t] p)) (.int iX ((r:Int)+1));have cf:=zkk.1.cell;have Hx:=za zkk.2.2;clear zkk k8 f8 E;generalize (((((wF.setCell ⟨w.heap.size+1+1+1,0,fV⟩ (1:Int)).setCell ⟨w.heap.size+1+1+1,1,fV⟩ (0:Int)).setCell ⟨w.heap.size+1+1+1,2,fV⟩ ()).setCell ⟨w.heap.size+1+1+1,3,fV⟩ ()).setCell ⟨w.heap.size+1+1+1,4,fV⟩ (.string (zaq [s,t] p))).setCell ⟨w.heap.size+1+1+1,5,fV⟩ (.int iX ((r:Int)+1))=X at *;exact bodyPost_ret (v:=j2 #[(1:Int),(0:Int),(),(),kA (zaq [s,t] p),((r:Int)+1:Int)]) (by simp [results,Tryz.results72,go_sem,cf]) rfl (by
       rw [hv.out];exact⟨fV,0,0,fV,0,0,by simp [noA],noA_own _ _,Hx.out⟩)
     |true =>
      have cL:=(J.out.blk aF.out (ag.out _ (dD _))).1.cell;have aD:=i.1.cell;have a9:=za (zgE (x:=z) S.out J.out.j oM cm.out hI aH (by have:=y.size;have:=Q.size;omega) hL aG.out aC);clear ae;go_upto_region 99 with fail
      refine a9.out.mono ?_;rintro e cO ⟨S3,av,U⟩;have ab:=za ((J.out.trans av).more S.out.ok (show 21840+30000*r+1692+1+27840<=21840+30000*(r+1) by omega));have aa:=za (show runT s t p L (12 - (r+1)) (r+1) (zba L (zu s p L) rs cs z)=vpT s t p by
       rw [<- ah.out,aj.out,if_pos hsf,if_neg (show ¬ ((-1:Int)=0) by decide),if_neg (show ¬ ((-1:Int)=1) by decide),show 12 - (r+1)=11 - r by omega])
      have H:=za (aK.out.ar z);have D:=av.blk i.1 i.2;have cM:=D.1.cell;have cw:=D.1.frozen;have bM:=i.1.lt;clear aD cL;rcases U with ⟨hn,rfl⟩|⟨bj,a3,R2,C2,cv,cu,hn,rfl,bb⟩
      ·rw [hn] at H aa;go_wp2_with fail
       go_roundw
       case rel=>exact⟨r+1,fV,S3,rfl,gM,oM,za ((ab.out.cell S.out.ok (oH l.out) (oH l.out) D.2 0 _).cell S.out.ok (oH l.out) (oH l.out) D.2 1 _),za ⟨D.2,.inl ⟨rfl,_,_,(D.1.ae 0 _).ae 1 _⟩⟩,H,aa⟩
       case measure=>exact uM
      ·rw [hn] at H aa;have bc:=za (zjc (base:=w5.heap.size) D.1 D.2 bb (by have:=y.size;have:=Q.size;omega) bM);go_wp2_with fail
       go_roundw
       case rel=>exact⟨r+1,fU (bj,a3),S3,rfl,gM,oM,za ((ab.out.cell S.out.ok (oH l.out) (oH l.out) D.2 0 _).cell S.out.ok (oH l.out) (oH l.out) D.2 1 _),bc,H,aa⟩
       case measure=>exact uM
   |true =>
    have aj:=za (show zaM s p t L a=(zbx (zaT s a p) L,-1) by unfold zaM;rw [if_pos hub]);have aB:=zcQ bg.out.1 L;have aC:(zbx (zaT s a p) L).size<=4000:=by have:=zeT (zaT s a p) L;have:=bg.out.2;omega
    have ax:=za (zfS (s:=zaT s a p) (a:=L) (w:=cN) bg.out.1 oM);have k9:=(bp.out.ext Y).cell;obtain⟨z,hz⟩:∃ z,Hid (zbx (zaT s a p) L=z):=⟨_,za rfl⟩;rw [hz.out] at aB aC aj ax;have aG:=za aB;go_upto_region 20 with (go_at_call 53;refine ax.out.mono (mQ fun bZ af=>?_))
    have y:=Y.trans af;have V:=za (ad.out.ext S.out.ok y);have a9:=za (zgE (x:=z) S.out V.out.j oM (aQ.out.ext y) hI aH (by have:=y.size;have:=Q.size;omega) hL aG.out aC);have ae:=(V.out.blk aF.out (ag.out _ (dD _))).1.cell;have ao:=za (aP.out.ext y);have aD:=ao.out.cell;go_upto_region 99 with fail
    refine a9.out.mono ?_;rintro e cO ⟨S3,av,U⟩;have ab:=za ((V.out.trans av).more S.out.ok (show 21840+30000*r+1692+27840<=21840+30000*(r+1) by omega));have aa:=za (show runT s t p L (12 - (r+1)) (r+1) (zba L (zu s p L) rs cs z)=vpT s t p by
     rw [<- ah.out,aj.out,if_neg (show ¬ ((-1:Int)=0) by decide),if_neg (show ¬ ((-1:Int)=1) by decide),show 12 - (r+1)=11 - r by omega])
    have H:=za (aK.out.ar z);have i:=av.blk ao.out hg9.out;have cM:=i.1.cell;have cw:=i.1.frozen;clear aD ae k9;rcases U with ⟨hn,rfl⟩|⟨bj,a3,R2,C2,cv,cu,hn,rfl,bb⟩
    ·rw [hn] at H aa;go_wp2_with fail
     go_roundw
     case rel=>exact⟨r+1,fV,S3,rfl,gM,oM,za ((ab.out.cell S.out.ok (oH l.out) (oH l.out) i.2 0 _).cell S.out.ok (oH l.out) (oH l.out) i.2 1 _),za ⟨i.2,.inl ⟨rfl,_,_,(i.1.ae 0 _).ae 1 _⟩⟩,H,aa⟩
     case measure=>exact uM
    ·rw [hn] at H aa;have bc:=za (zjc (base:=w5.heap.size) i.1 i.2 bb (by have:=y.size;have:=Q.size;omega) (oH ao.out.lt));go_wp2_with fail
     go_roundw
     case rel=>exact⟨r+1,fU (bj,a3),S3,rfl,gM,oM,za ((ab.out.cell S.out.ok (oH l.out) (oH l.out) i.2 0 _).cell S.out.ok (oH l.out) (oH l.out) i.2 1 _),bc,H,aa⟩
     case measure=>exact uM
end
theorem vpT_cert (s t:Sys) (p:Aut):((vpT s t p).code=0->zfH jU (vpT s t p).asm (vpT s t p).tr=jU)/\((vpT s t p).code=1->zfH j1 (vpT s t p).asm (vpT s t p).tr=jU):=by
 rcases zcV s t p with h|⟨L,h⟩
 ·rw [zie h];exact⟨(fun h=>by cases h),(fun h=>by cases h)⟩
 ·have a:=vpT_ok h;obtain⟨b,c,d⟩:=zbo (s:=s) (p:=p) (t:=t) oM;refine⟨fun h0=>?_,fun h1=>?_⟩
  ·rw [a.quiet oM];unfold zfH;rw [if_pos rfl,(a.holds h0).1];rw [ByteArray.toList,ByteArray.toList.loop,if_neg dM];rfl
  ·rw [a.none_ oM];unfold zfH;rw [if_neg dM,vpT_word b d c];rfl
section
variable {w:jX}{lo hi n c lo1 hi1 m d m' d' lo2 hi2 k c2:Nat}{A B B' C:Option Addr}{s t:Sys}{p:Aut}
theorem impl_TaskOf0 (hs:zU w lo hi A n s)(hp:zJ w lo1 hi1 B m B' m' p)(ht:zU w lo2 hi2 C k t)(hif:iface s p t = -1) :
  j6 j3 39 #[j2 #[s.al,s.st,fC A n c],j2 #[p.al,fC B m d,fC B' m' d'],j2 #[t.al,t.st,fC C k c2]] w
   fun e w'=>e=j5 (.tuple #[j2 #[(0:Int),(0:Int),(),(0:Int),(),(),(0:Int)],j7 j1])/\Ext w w':=by
 have b:=za (fun W (hW:Ext w W)=>zcD (c:=c) (d1:=d) (d1':=d') (c2:=c2) (hs.ext hW) (hp.ext hW) (ht.ext hW));rw [hif] at b;clear hs hp ht hif;obtain⟨j,U0⟩:∃ x,Hid ((((w.alloc (.cells #[s.al,s.st,fC A n c] 38)).alloc (.cells #[p.al,fC B m d,fC B' m' d'] 27)).alloc (.cells #[t.al,t.st,fC C k c2] 38)).alloc (.cells #[(0:Int),(0:Int),(),(0:Int),(),(),(0:Int)] 70)=x):=⟨_,za rfl⟩;have f:Ext w j:=(((((cY _).alloc _).alloc _).alloc _).alloc _).trans (e6 U0.out);obtain⟨l,o,q⟩:=zK (((cY _).alloc _).trans (e6 U0.out));have i:=eA U0.out;simp only [World.size_alloc] at i
 go_enter Tryz.func39,Tryz.ntmps39
 go_upto_region 1 with fail
 rw [U0.out] at *;have D:=l.cells;have z:=o.cells;have E:=q.cells;have y:=cY j;go_upto_region 99 with fail
 refine (b.out _ f).mono (mQ fun g a=>?_);have bz:=i.ext a;have G:=bz.cell;have F:=bz.frozen;have h:=f.trans a;have u:Frm (fun k=>k=w.heap.size+1+1+1) g (((((((g.setCell ⟨w.heap.size+1+1+1,0,fV⟩ (0:Int)).setCell ⟨w.heap.size+1+1+1,1,fV⟩ (0:Int)).setCell ⟨w.heap.size+1+1+1,2,fV⟩ ()).setCell ⟨w.heap.size+1+1+1,3,fV⟩ (0:Int)).setCell ⟨w.heap.size+1+1+1,4,fV⟩ ()).setCell ⟨w.heap.size+1+1+1,5,fV⟩ ()).setCell ⟨w.heap.size+1+1+1,6,fV⟩ (0:Int)):=
  ((((((dG g _ 0 _).trans (dG _ _ 1 _)).trans (dG _ _ 2 _)).trans (dG _ _ 3 _)).trans (dG _ _ 4 _)).trans (dG _ _ 5 _)).trans (dG _ _ 6 _)
 have r:Blk (((((((g.setCell ⟨w.heap.size+1+1+1,0,fV⟩ (0:Int)).setCell ⟨w.heap.size+1+1+1,1,fV⟩ (0:Int)).setCell ⟨w.heap.size+1+1+1,2,fV⟩ ()).setCell ⟨w.heap.size+1+1+1,3,fV⟩ (0:Int)).setCell ⟨w.heap.size+1+1+1,4,fV⟩ ()).setCell ⟨w.heap.size+1+1+1,5,fV⟩ ()).setCell ⟨w.heap.size+1+1+1,6,fV⟩ (0:Int)) (w.heap.size+1+1+1) 70 #[.int iX 0,.int iX 0,fC fV 0 0,.int iX 0,fC fV 0 0,fC fV 0 0,.int iX 0]:=by
  simpa using ((((((bz.ae 0 (.int iX 0)).ae 1 (.int iX 0)).ae 2 (fC fV 0 0)).ae 3 (.int iX 0)).ae 4 (fC fV 0 0)).ae 5 (fC fV 0 0)).ae 6 (.int iX 0)
 have hret:=za (h.frm u (fun k hk e=>oM));go_wp2_with fail
 generalize (((((((g.setCell ⟨w.heap.size+1+1+1,0,fV⟩ (0:Int)).setCell ⟨w.heap.size+1+1+1,1,fV⟩ (0:Int)).setCell ⟨w.heap.size+1+1+1,2,fV⟩ ()).setCell ⟨w.heap.size+1+1+1,3,fV⟩ (0:Int)).setCell ⟨w.heap.size+1+1+1,4,fV⟩ ()).setCell ⟨w.heap.size+1+1+1,5,fV⟩ ()).setCell ⟨w.heap.size+1+1+1,6,fV⟩ (0:Int))=W at *;have cf:=r.cell;exact bodyPost_ret (v:=.tuple #[j2 #[(0:Int),(0:Int),(),(0:Int),(),(),(0:Int)],j7 j1]) (by simp [results,Tryz.results39,go_sem,cf]) rfl ⟨rfl,hret.out⟩
theorem zgO (hs:zU w lo hi A n s)(hp:zJ w lo1 hi1 B m B' m' p)(ht:zU w lo2 hi2 C k t)(hif:iface s p t = -1) :
  j6 j3 72 #[j2 #[s.al,s.st,fC A n c],j2 #[t.al,t.st,fC C k c2],j2 #[p.al,fC B m d,fC B' m' d'],.nilFunc] w (zjh w ⟨3,noA,⟨#[]⟩,0⟩):=by
 have i:=za (fun W (hW:Ext w W)=>impl_TaskOf0 (c:=c) (d:=d) (d':=d') (c2:=c2) (hs.ext hW) (hp.ext hW) (ht.ext hW) hif);clear hs hp ht hif;obtain⟨z,U0⟩:∃ x,Hid ((((w.alloc (.cells #[s.al,s.st,fC A n c] 38)).alloc (.cells #[t.al,t.st,fC C k c2] 38)).alloc (.cells #[p.al,fC B m d,fC B' m' d'] 27)).alloc (.cells #[(0:Int),(0:Int),(),(),kA ⟨#[]⟩,(0:Int)] 42)=x):=⟨_,za rfl⟩;have b:Ext w z:=(((((cY _).alloc _).alloc _).alloc _).alloc _).trans (e6 U0.out);obtain⟨l,o,q⟩:=zK (((cY _).alloc _).trans (e6 U0.out));have h:=eA U0.out;simp only [World.size_alloc] at h
 go_enter Tryz.func72,Tryz.ntmps72
 go_upto_region 1 with fail
 rw [U0.out] at *;have r:=l.cell;have u:=o.cell;have y:=q.cell;go_upto_region 99 with fail
 refine (i.out _ b).mono (mQ fun D g=>?_);have f:=g.alloc (.cells #[(0:Int),(0:Int),(),(0:Int),(),(),(0:Int)] 70);have a:=h.ext f;have F:=a.cell;have E:=a.frozen;clear r u y;have zkk:=vd_fin (b.trans f) a oM (.int iX 3) (.int iX 0) (fC fV 0 0) (fC fV 0 0) (.string ⟨#[]⟩) (.int iX 0);have cf:=zkk.1.cell;have j:=za zkk.2.2;clear zkk a;go_wp2_with fail
 generalize ((((((D.alloc (.cells #[(0:Int),(0:Int),(),(0:Int),(),(),(0:Int)] 70)).setCell ⟨w.heap.size+1+1+1,0,fV⟩ (3:Int)).setCell ⟨w.heap.size+1+1+1,1,fV⟩ (0:Int)).setCell ⟨w.heap.size+1+1+1,2,fV⟩ ()).setCell ⟨w.heap.size+1+1+1,3,fV⟩ ()).setCell ⟨w.heap.size+1+1+1,4,fV⟩ (.string ⟨#[]⟩)).setCell ⟨w.heap.size+1+1+1,5,fV⟩ (0:Int)=X at *;exact bodyPost_ret (v:=j2 #[(3:Int),(0:Int),(),(),kA ⟨#[]⟩,(0:Int)]) (by simp [results,Tryz.results72,go_sem,cf]) rfl ⟨fV,0,0,fV,0,0,rfl,noA_own _ _,j.out⟩
theorem zdl {v:Vd}(HR:Hid (∀ W,Ext w W->j6 j3 72 #[j2 #[s.al,s.st,fC A n c],j2 #[t.al,t.st,fC C k c2],j2 #[p.al,fC B m d,fC B' m' d'],.nilFunc] W (zjh W v))) :
  j6 j3 20 #[j2 #[s.al,s.st,fC A n c],j2 #[t.al,t.st,fC C k c2],j2 #[p.al,fC B m d,fC B' m' d']] w (zjh w v):=by
 obtain⟨y,U0⟩:∃ x,Hid ((((w.alloc (.cells #[s.al,s.st,fC A n c] 38)).alloc (.cells #[t.al,t.st,fC C k c2] 38)).alloc (.cells #[p.al,fC B m d,fC B' m' d'] 27)).alloc (.cells #[(0:Int),(0:Int),(),(),kA ⟨#[]⟩,(0:Int)] 42)=x):=⟨_,za rfl⟩;have b:Ext w y:=(((((cY _).alloc _).alloc _).alloc _).alloc _).trans (e6 U0.out);obtain⟨D,E,F⟩:=zK (((cY _).alloc _).trans (e6 U0.out));have r:=eA U0.out;simp only [World.size_alloc] at r
 go_enter Tryz.func20,Tryz.ntmps20
 go_wp2_with fail
 rw [U0.out] at *;refine (HR.out y b).mono ?_;rintro e I ⟨g,o,j,h,q,l,rfl,u,f⟩;have a:=r.ext f;have H:=a.cell;have G:=a.frozen;have zkk:=vd_fin (b.trans f) a oM (.int iX v.code) (.int iX v.asm.al) (fC g o j) (fC h q l) (.string v.tr) (.int iX v.ro);have i:=za ((u.ay a zkk.2.1 dM).less b.size);have cf:=zkk.1.cell;have z:=za zkk.2.2;clear zkk a u;go_wp2_with fail
 exact bodyPost_ret (v:=j2 #[v.code,v.asm.al,fC g o j,fC h q l,v.tr,v.ro]) (by simp [results,Tryz.results20,go_sem,cf]) rfl ⟨g,o,j,h,q,l,rfl,i.out,z.out⟩
theorem impl_VerifyPair (hs:zU w lo hi A n s)(hp:zJ w lo1 hi1 B m B' m' p)(ht:zU w lo2 hi2 C k t)(hT:Tab w) :
  j6 j3 20 #[j2 #[s.al,s.st,fC A n c],j2 #[t.al,t.st,fC C k c2],j2 #[p.al,fC B m d,fC B' m' d']] w (zjh w (vpT s t p)):=by
 rcases zcV s t p with h|⟨L,h⟩
 ·rw [zie h];exact zdl (za (fun W hW=>zgO (hs.ext hW) (hp.ext hW) (ht.ext hW) h))
 ·have a:=(zbo (show 0<=iface s p t by omega)).1;exact zdl (za (fun W hW=>zhy (hs.ext hW) (hp.ext hW) (ht.ext hW) h (by have:=hs.1;have:=valid_len a;omega) (hT.ext hW)))
end
def shA (al p k:Nat) (a:Aut):Prop:=a.al=al/\a.next.length=p/\a.acc.length=p/\∀ l∈a.next,l.length=k
theorem zgd (h:Rd w R M)(hM:M<=900000000)(ha:a<64)(hp:p<=16) :
  j6 j3 164 #[kB (fU R),a,p] w (zgM R (M+400) (shA a p (letters a 6).length) w):=by
 have al:Sm a:=tM;have hRl:=h.lt
 go_enter Tryz.func164,Tryz.ntmps164
 have hxz:=(cY w).alloc (.cells #[(0:Int),(),()] 27);have bz:=dZ w 27 #[(0:Int),(),()];have S:=(cY (w.alloc (.cells #[(0:Int),(),()] 27))).alloc (.cells #[a,(),()] 27);have bG:=dZ (w.alloc (.cells #[(0:Int),(),()] 27)) 27 #[a,(),()];have an:=bz.lt;have am:(w.alloc (.cells #[(0:Int),(),()] 27)).heap.size=w.heap.size+1:=sM;rw [am] at bG;go_upto_region 2 with fail
 generalize (w.alloc _).alloc _=w2 at *;generalize w.alloc _=T at *;go_wp2_with fail
 refine (zai a al _).mono ?_;rintro e w3 ⟨B,d,rfl,-,G⟩;have c:zbK T w3 R (w.heap.size+1) M a (fC fV 0 0) [] [] (fC fV 0 0) []:=⟨bG.ext G,World.ownsRow_nil _ _ _ _,zB.nil _ _,World.ownsRow_nil _ _ _ _,h.ext ((hxz.trans S).trans G),(S.trans G).dr,oM,oM⟩;have az:=zA a 6;clear bG G S;generalize (letters a 6).length=k at *;go_wp2_with fail
 go_loopw [9] (fun iv wr=>∃ (i:Nat) (v:j4) (g:List j4) (H:List (List Int)) (vA:j4) (r:List Bool),i<=p/\iv=.int iX (i:Nat)/\zbK T wr R (w.heap.size+1) (M+i*20) a v g H vA r/\H.length=i/\r.length=i/\Hid (∀ l∈H,l.length=k)) (fun iv _=>p - (intOf iv).toNat)
 case atStart=>exact⟨0,_,[],[],_,[],dF _,rfl,c,rfl,rfl,za (fun l hl=>by simp at hl)⟩
 case round =>
  clear c;obtain⟨i,v,g,H,vA,r,hi,rfl,c,u,F,U⟩:=hrel
  by_cases hip:i<p
  ·have C:=za c.low;have hK:=za (show T.heap.size<=wr.heap.size from c.dr.size);have h0:=World.ownsRow_made (base:=wr.heap.size) (e:=3) (size:=1) wr #[] 0 (dD _) (dF _) rfl;have Q:=(cY wr).alloc (.cells #[] 3);have m:=c.ext Q;go_upto_region 7 with fail
   clear c;obtain⟨I,aa⟩:∃ I,I=wr:=⟨_,rfl⟩;rw [<- aa] at h0 C hK m Q ⊢;clear aa;generalize I.alloc _=w4 at *;go_wp2_with fail
   go_loopw [10,11] (fun rv jv wr=>∃ (j:Nat) (l:List Int),j<=k/\jv=.int iX (j:Nat)/\zbK T wr R (w.heap.size+1) (M+i*20+j) a v g H vA r/\l.length=j/\wr.ownsRow I.heap.size 3 1 rv j (ints l)/\Hid (I.heap.size<=wr.heap.size)) (fun _ jv _=>k - (intOf jv).toNat)
   case atStart=>exact⟨0,[],dF _,rfl,m,rfl,h0,za Q.size⟩
   case round =>
    clear m h0;obtain⟨j,l,hj,rfl,c,t,f,ak⟩:=hrel
    by_cases hjk:j<k
    ·obtain⟨AR,cR,rfl⟩:=zh f;go_wp2_with fail
     refine (zF c.rd oM).mono ?_;rintro e w5 ⟨y,rfl,-,-,ai,L⟩;have J:=c.drawn L ai;have E:=zbw f L (fun b h1 e=>by have:=c.dr.size;have:=c.hR;have:=hK.out;omega);have Z:I.heap.size<=w5.heap.size:=dL ak.out L.size;have O:=za t;clear t c f;go_wp2_with (at_builtin;refine zI I w5 rfl _ _ _ rfl 3 _ 1 8 Tryz.underlying110 zS rfl dM (fC AR j cR) j (ints l) _ _ rfl rfl Z E rfl (by simp [Value.oneCell']) lM oM ?_;intro g5 cap5 w6 hown6 hg6 hat6 hlt6)
     go_roundw
     case rel=>exact⟨j+1,l++[(y:Int)],oM,gM,(J.side C.out hK.out E hg6).more oM,by simp [O.out],by simpa [ints] using hown6,za (dL Z hg6.size)⟩
     case measure=>exact uM
    ·obtain rfl:j=k:=oM;obtain⟨AR,cR,rfl⟩:=zh f;have cG:=c.blk.cell;have aj:=c.dr.size;have D:wr.ownsRow I.heap.size 3 1 (fC AR j cR) l.length (ints l):=by rw [t];exact f
     go_upto_region 12 with (at_builtin;refine zI T wr rfl _ _ _ rfl 110 _ 1 24 Tryz.underlying24 zbp rfl dM v H.length g _ _ rfl rfl aj c.nx rfl (zaG _ _ _) lM oM ?_;intro g5 cap5 w6 hown6 hg6 hat6 hlt6;obtain⟨q1,q2,q3⟩:=c.av C.out hK.out D hown6 hg6 hat6;have ao:=q1.out)
     rw [u] at q3;clear q1 ao q2 hown6 hg6 hat6 hlt6 f D cG c;have V:=za (show ∀ l'∈H++[l],l'.length=j from fun l' O=>by
      rcases List.mem_append.1 O with h1|h1
      ·exact U.out l' h1
      ·rw [List.mem_singleton.1 h1];exact t)
     have Y:(H++[l]).length=i+1:=by simp [u]
     clear t u;generalize H++[l]=aA at *;generalize g++[fC AR j cR]=ap at *;generalize w6.setCell ⟨w.heap.size+1,1,fV⟩ (fC (fU g5) (i+1) cap5)=w7 at *;generalize fC (fU g5) (i+1) cap5=v7 at *;have cG:∀ W,Dr R w7 W->∀ q,W.cell? ⟨w.heap.size+1,q,fV⟩=#[Value.int iX a,v7,vA][q]?:=fun W hW=>(q3.blk.dr hW oM).cell;refine tR (fun X=>Dr R w7 X) [6,8] (Ord.of [0,1,2,3,4,5,6,7,8]) ?_;refine tQ ?_;refine zD fun K hK=>?_;go_simp;refine (zF (n:=3) (q3.rd.ext ((cY _).drew)) oM).mono ?_;rintro e w8 ⟨z,rfl,-,-,hr8,hd8⟩;have s:Dr R w7 w8:=((Dr.refl R w7).drew).trans hd8;have o:=q3.drawn s hr8;refine hK.out _ _ s ?_;refine pT ?_;refine tQ ?_;refine zD fun K hK=>?_;go_simp;refine hK.out _ _ (s.alloc _) ?_;refine pT ?_;refine zR fun K hK=>?_
     trace_state
     refine zaC T w8 _ _ _ rfl 4 _ 1 1 Tryz.underlying25 zaJ rfl dM vA r.length (zY r) _ _ rfl rfl o.dr.size o.acc rfl (by simp [Value.oneCell']) lM oM ?_;intro g9 cap9 w9 hown9 hg9 hat9 hlt9;refine hK.out _ _ ?_;refine pT ?_;refine tQ ?_;obtain⟨p1,p2,p3⟩:=o.aq (x:=decide (0<z)) (W':=w9) hown9 hg9 hat9;have aC:=p1.out;rw [F] at p3;refine zR fun K hK=>?_;go_simp;refine hK.out _ _ ?_;refine zap ?_;go_wp2_with fail
     go_roundw
     case rel=>exact⟨i+1,_,_,_,_,_,oM,gM,p3.more oM,Y,by simp [F],V⟩
     case measure=>exact uM
  ·obtain rfl:i=p:=oM;obtain⟨A5,c5,rfl⟩:=zh c.nx;obtain⟨B5,d5,rfl⟩:=zh c.acc;obtain⟨f1,f2⟩:=c.fin (N:=M+400) (sh:=shA a i k) hxz bz rfl hRl (dD _) an oM ⟨rfl,u,F,U.out⟩;rw [u,F] at f1 f2;have cG:=c.blk.cell;have bz5:=bz.dr c.dr oM;have cZ:=bz5.cell;have fZ:=bz5.frozen;go_wp2_with fail
   have cf:=f2.cell;exact bodyPost_ret (v:=j2 #[a,fC A5 i c5,fC B5 i d5]) (by simp [results,Tryz.results164,go_sem,cf]) rfl f1.out
section
variable {w0 W W':jX}{R G M N:Nat}{al:Int}{v vA:j4}{rows:List j4}{ls:List (List Int)}{acc:List Bool}
theorem zbK.of {a:Aut}(ho:zac W w0.heap.size A n c A' n' c' a)(hr:Rd W R M)(hd:Dr R w0 W)(hR:R<w0.heap.size) :
  ∃ rows,zbK w0 (W.alloc (.cells #[a.al,fC A n c,fC A' n' c'] 27)) R W.heap.size M a.al (fC A n c) rows a.next (fC A' n' c') a.acc:=by
 obtain⟨⟨rows,h1,d⟩,h3,f,g⟩:=ho;have b:=(cY W).alloc (.cells #[a.al,fC A n c,fC A' n' c'] 27);refine⟨rows,dZ W _ _,zi h1 b,d.keep b.ak (fun _ _=>id),?_,hr.ext b,hd.ext b,hR,hd.size⟩;rw [<- g];exact zi f b
theorem zbK.setAcc {x:Bool}(h:zbK w0 W R G M al v rows ls (fC (fU g) n c) acc)(hn:n=acc.length) :
  zbK w0 (W.setCell ⟨g,i,fV⟩ (.bool x)) R G M al v rows ls (fC (fU g) n c) (acc.set i x):=by
 subst hn;have a:=dG W g i (.bool x);have f:=(h.acc.lt g rfl).1;have d:=h.hR;have hst:=(h.acc.stored i (.bool x)).1;rw [show (zY acc).set i (.bool x)=zY (acc.set i x) by simp [zY,List.map_set]] at hst;refine⟨h.blk.frm a (fun e=>zq h.acc h.blk dM rfl e.symm),zf h.nx a (fun b hb hS=>?_),h.rows.frm a (fun i' r b hr hb hS=>?_),by simpa using hst,h.rd.frm a (fun k hk e=>oM),h.dr.ag (p:=⟨g,i,fV⟩) f _,d,h.hG⟩
 ·subst hS;exact zas h.nx h.acc dM hb rfl
 ·subst hS;obtain⟨l,_,j⟩:=h.rows.row hr;exact zas j h.acc dM hb rfl
theorem zbK.setRow {k:Nat}(h:zbK w0 W R G M al v rows ls vA acc)(hr:rows[i]?=fU (fC (fU g) n c))(hl:ls[i]?=fU l)(hn:n=l.length) :
  zbK w0 (W.setCell ⟨g,k,fV⟩ x) R G M al v rows (ls.set i (l.set k x)) vA acc:=by
 subst hn;have a:=dG W g k (.int iX x);have d:=h.rows.2.1 i _ l hr hl;have o:=(d.lt g rfl).1;have f:=h.hR;have hst:=(d.stored k (.int iX x)).1;rw [show (ints l).set k (.int iX x)=ints (l.set k x) by simp [ints,List.map_set]] at hst;have m:Frm (Go.Proofs.YtckbjnndaaoddaaGreatDoor.blk (fU ⟨g,0,fV⟩)) W (W.setCell ⟨g,k,fV⟩ x):=a.mono (fun b _ hb=>⟨_,rfl,hb.symm⟩);refine⟨h.blk.frm a (fun e=>zq d h.blk dM rfl e.symm),?_,?_,zf h.acc a (fun b hb hS=>?_),h.rd.frm a (fun k hk e=>oM),h.dr.ag (p:=⟨g,k,fV⟩) o _,f,h.hG⟩
 ·rw [e9];exact zf h.nx a (fun b hb hS=>by subst hS;exact zas h.nx d dM hb rfl)
 ·have:=h.rows.ae (w':=W.setCell ⟨g,k,fV⟩ x) (j:=i) (l:=l.set k x) (A:=fU ⟨g,0,fV⟩) (c:=c) (by simpa using hr) m (by simpa using hst);exact this
 ·subst hS;exact zas h.acc d dM hb rfl
theorem zbK.row (h:zbK w0 W R G M al (fC (fU g) n c) rows ls vA acc)(hl:ls[i]?=fU l)(hn:n=ls.length) :
  ∃ Ar cr,rows[i]?=fU (fC Ar l.length cr)/\W.cell? ⟨g,i,fV⟩=fU (fC Ar l.length cr)/\W.ownsRow w0.heap.size 3 1 (fC Ar l.length cr) l.length (ints l):=by
 subst hn;have f:i<ls.length:=(j9.1 hl).1;have b:i<rows.length:=by rw [h.rows.1];exact f
 have a:rows[i]?=fU rows[i]:=dB b;have d:=h.rows.2.1 i _ l a hl;obtain⟨Ar,cr,e⟩:=zh d;rw [e] at a d;exact⟨Ar,cr,a,by rw [h.nx.cellAt i oM,a],d⟩
end
theorem zhU (h:Rd w R M)(hM:M<=900000000)(ha:a<64)(hp0:1<=p)(hp:p<=16) :
  j6 j3 162 #[kB (fU R),a,p] w (zgM R (M+400) (shA a p (letters a 6).length) w):=by
 have hRl:=h.lt
 go_enter Tryz.func162,Tryz.ntmps162
 go_wp2_with fail
 generalize U0:w.alloc _=Y at *;have hxz:=Ext.al_ U0;have bz:=eA U0;have T:=bz.lt;clear U0;refine (zgd (h.ext hxz) hM ha hp).mono ?_;rintro e Z ⟨b,A,n,c,A',n',c',rfl,zkh,hsh,E,B⟩;obtain⟨u,d⟩:=zbK.of zkh E B oM;obtain⟨s1,J,L,X⟩:=hsh.out;have H:n=b.next.length:=zkh.2.1;have t:n'=b.acc.length:=zkh.2.2.2;obtain⟨af,y,ae⟩:=b;dsimp only at *;subst s1;rw [J] at H;rw [L] at t;replace H:=H.symm;replace t:=t.symm;subst H;subst t;have hG:=B.size;clear zkh E B hsh;have V:=za X;clear X;have am:=zA a 6;generalize (letters a 6).length=k at *;obtain⟨Q,rfl,aj,-⟩:=zM (L ▸ d.acc) hp0;obtain⟨S,rfl,ak,-⟩:=zM (J ▸ d.nx) hp0;have U:=za J;have S3:=za L;clear J L;go_upto_region 2 with fail
 generalize Z.alloc _=w3 at *;generalize Z.heap.size=G at *;go_wp2_with fail
 go_loopw [8] (fun iv wr=>∃ (i:Nat) (r:List Bool),i<=p/\iv=.int iX (i:Nat)/\zbK Y wr R G (M+400) a (fC (fU S) p c) u y (fC (fU Q) p c') r/\Hid (r.length=p)) (fun iv _=>p - (intOf iv).toNat)
 case atStart=>exact⟨0,_,dF _,rfl,d,S3⟩
 case round =>
  clear d;obtain⟨i,r,hi,rfl,d,hal⟩:=hrel
  by_cases hip:i<p
  ·have cG:=d.blk.cell;have I:=d.acc;rw [hal.out] at I;obtain⟨o0,c0⟩:=zaF I i oM;have f0:=I.frozenAt i;have q:=d.setAcc (i:=i) (x:=decide ((i:Int)<(p:Int) - 1)) hal.out.symm;clear I;go_wp2_with fail
   go_roundw
   case rel=>exact⟨i+1,_,oM,gM,q,za (by rw [e9];exact hal.out)⟩
   case measure=>exact uM
  ·clear hi;have hp1:p - 1<y.length:=oH U.out;obtain⟨l0,f⟩:∃ l,y[p - 1]?=fU l:=⟨_,dB hp1⟩;have m:=za (V.out l0 (dC f));have O:=za f;have an:((p:Int) - 1).toNat=p - 1:=oM;clear f hp1;go_wp2_with fail
   go_loopw [9] (fun iv wr=>∃ (j:Nat) (F:List (List Int)) (l:List Int),j<=k/\iv=.int iX (j:Nat)/\zbK Y wr R G (M+400) a (fC (fU S) p c) u F (fC (fU Q) p c') r/\Hid (F.length=p)/\Hid (∀ l∈F,l.length=k)/\Hid (F[p - 1]?=fU l)) (fun iv _=>k - (intOf iv).toNat)
   case atStart=>exact⟨0,_,_,dF _,rfl,d,U,V,O⟩
   case round =>
    clear d m;obtain⟨j,F,l,hj,rfl,d,s,C,f⟩:=hrel;have m:=C.out l (dC f.out);obtain⟨Ar,cr,D,z,o⟩:=d.row f.out s.out.symm;have cG:=d.blk.cell;rw [m] at D z o;have HR:=za D;clear D
    by_cases hjk:j<k
    ·obtain⟨g,rfl,-,-⟩:=zM o oM;obtain⟨o0,c0⟩:=zaF o j oM;have f0:=o.frozenAt j;have q:=d.setRow (k:=j) (x:=(p:Int) - 1) HR.out f.out m.symm;clear o;have HL:=za m;clear m;go_wp2_with fail
     go_roundw
     case rel =>
      refine⟨j+1,_,l.set j ((p:Int) - 1),oM,gM,q,za (by rw [e9];exact s.out),za (fun l' hl'=>?_),za ?_⟩
      ·rcases List.mem_or_eq_of_mem_set hl' with h1|h1
       ·exact C.out l' h1
       ·rw [h1,e9];exact HL.out
      ·have:=s.out;rw [eX oM]
     case measure=>exact uM
    ·obtain⟨f1,f2⟩:=d.fin (N:=M+400) (sh:=shA a p k) hxz bz rfl hRl (dD _) T oM ⟨rfl,s.out,hal.out,C.out⟩;have bz5:=bz.dr d.dr oM;have cZ:=bz5.cell;have fZ:=bz5.frozen;clear o m;go_wp2_with fail
     have cf:=f2.cell;exact bodyPost_ret (v:=j2 #[a,fC (fU S) p c,fC (fU Q) p c']) (by simp [results,Tryz.results162,go_sem,cf]) rfl f1.out
def strOf:j4->ByteArray
 |.string s=>s
 |_=>⟨#[]⟩
def RetTexts (L:Nat) (w:jX) (e:Ending) (w':jX):Prop:=∃ (A:Option Addr) (n c:Nat) (l:List ByteArray),e=j5 (fC A n c)/\0<n/\w'.ownsRow w.heap.size 9 1 (fC A n c) n (zO l)/\(∀ x∈l,x.size<=L)/\Ext w w'
theorem zbH (w:jX)  (hu:zO (us.toList.map strOf)=us.toList)(hn:us.size=n)(h:n<=1000):(w.alloc (.cells us 9)).ownsRow w.heap.size 9 1 (fC (fU w.heap.size) n n) n (zO (us.toList.map strOf)):=by
 rw [hu];exact World.ownsRow_lit w us n (dD _) lM (by simpa using hn)
theorem spec_l2Texts :j6 j3 294 #[] w (RetTexts 100 w):=by
 go_enter Tryz.func294,Tryz.ntmps294
 go_wp2;go_ret;exact⟨_,_,_,_,rfl,dM,zbH w rfl rfl oM,by decide +kernel,(cY _).alloc _⟩
theorem reads_ints {e:TypeId}(l:List Int)(hu:us.toList=ints l)(hn:us.size=n)(hx:Ext (w.alloc (.cells us e)) w')(h63:n<=1000):Reads w' w.heap.size (w.heap.size+1) 1 (fU ⟨w.heap.size,0,fV⟩) n (ints l):=
 ⟨by rw [<- hu];simpa using hn,oM,fun _=>⟨_,rfl,dD _,sM,fun j u hj=>by
  have:=(zcf hx).cell j
  rw [zad,dW,this]
  rw [<- hu] at hj
  simpa using hj⟩⟩
theorem zaV (l:List Int) (n:Nat) (us:Array j4)(hu:us.toList=ints l)(hn:us.size=n)(h0:0<n)(h63:n<=1000)(h:Rd w R M)(hM:M<=1000000000) :
  j6 j3 163 #[kB (fU R),fC (fU w.heap.size) n n] (w.alloc (.cells us 3)) (RetNum R M l (w.alloc (.cells us 3))):=
 l19Rd_num (h.ext ((cY _).alloc _)) hM (reads_ints l hu hn (cY _) h63) h.lt h0
theorem zhf (hs:zbN W R A n s)(hg:Good s)(hn:n<=L/\n<=c)(hr:Rd W R M)(hd:Dr R w W)(hB:Blk W Z 38 cs)(hR:R<w.heap.size)(hZ:w.heap.size<=Z) :
  RetG R M L w (j5 (j2 #[s.al,s.st,fC A n c])) (((W.setCell Z s.al).setCell ⟨Z,1,fV⟩ s.st).setCell ⟨Z,2,fV⟩ (fC A n c)):=by
 have a:=zeO W Z (.int iX s.al) (.int iX s.st) (fC A n c);exact⟨s,A,n,c,rfl,hs.far hB dM a,hg,hn,hr.frm a (fun k h1 h2=>oM),((hd.ag (p:=⟨Z,0,fV⟩) hZ _).ag (p:=⟨Z,1,fV⟩) hZ _).ag (p:=⟨Z,2,fV⟩) hZ _⟩
theorem yW15a1 {P:Prop}(h:P:=by
 go_wp2_with fail
 refine (zaV [3,2,4,1,5] 5 #[(3:Int),(2:Int),(4:Int),(1:Int),(5:Int)] rfl rfl oM oM hr6 oM).mono ?_;rintro e w7 ⟨st,hst,rfl,hr7,hd7⟩;have hw7:=(hw6.ext ((Ext.refl _).alloc _)).trans hd7;have bz7:=(bz6.ext ((Ext.refl _).alloc _)).dr hd7 oM;go_wp2_with fail
 refine (zaV [3,2,4,6] 4 #[(3:Int),(2:Int),(4:Int),(6:Int)] rfl rfl oM oM hr7 oM).mono ?_;rintro e w8 ⟨fw,_,rfl,hr8,hd8⟩;have hw8:=(hw7.ext ((Ext.refl _).alloc _)).trans hd8;have bz8:=(bz7.ext ((Ext.refl _).alloc _)).dr hd8 oM;obtain⟨a,rfl,ha⟩:∃ a:Nat,al=a∧a<64:=⟨al.toNat,by simp at hal;omega,by simp at hal;omega⟩;obtain⟨p,rfl,hp1,hp⟩:∃ p:Nat,st=p∧1<=p∧p<=16:=⟨st.toNat,by simp at hst;omega,by simp at hst;omega,by simp at hst;omega⟩;clear hal hst;go_wp2_with fail
 refine (zem hr8 oM ha hp1 hp).mono ?_;rintro e w9 ⟨s9,A9,n9,c9,rfl,hs9,hg9,hn9,hr9,hd9⟩;have bz9:=bz8.dr hd9 oM;have hfin9:=za (zhf (R:=R) (M:=M+30000) (L:=20000) (c:=c9) hs9 hg9 hn9 (hr9.more oM) (hw8.trans hd9) bz9 hRl (Nat.le_refl _));have cz9:=bz9.cell;have fz9:=bz9.frozen;go_wp2_with fail
 exact bodyPost_ret (v:=.agg #[s9.al,s9.st,.slice A9 n9 c9]) (by simp [results,Tryz.results257,go_sem,cz9]) rfl hfin9.out
 ):P:=h
theorem zhS (h:Rd w R M)(hM:M<=800000000) :
  j6 j3 257 #[kB (fU R)] w (RetG R (M+30000) 20000 w):=by
 have hRl:=h.lt;have t:=(cY w).alloc (.cells #[(0:Int),(0:Int),()] 38);have bz:=dZ w 38 #[(0:Int),(0:Int),()]
 go_enter Tryz.func257,Tryz.ntmps257
 go_wp2_with fail
 refine (zF (h.ext t) oM).mono ?_;rintro e w1 ⟨y,rfl,_,_,q,o⟩;have hw1:=t.dr.trans o;have g:=bz.dr o oM;have U:=g.lt;clear bz
 by_cases hy:y=0
 ·subst hy;go_wp2_with fail
  refine (spec_l2Texts).mono ?_;rintro e w2 ⟨A,n,c,l,rfl,O,zkh,J,j⟩;go_wp2_with fail
  refine (l19Rd_of (q.ext j) oM (Reads.af zkh) oM O).mono ?_;rintro e w3 ⟨x,Q,rfl,z,p⟩;have S:=J x Q;go_wp2_with fail
  refine (zcH z oM).mono ?_;rintro e w4 ⟨s,B,m,d,V,rfl,H,⟨G,-⟩,Z,hr4,hd4⟩;have r:Dr R w w4:=((hw1.ext j).trans p).trans hd4;have k:=((g.ext j).dr p oM).dr hd4 oM;have a:=(cY w4).alloc (.cells #[s.al,s.st,fC B m d] 38);have F:=dZ w4 38 #[s.al,s.st,fC B m d];cases V
  ·have C:=hr4.ext a;have D:=r.ext a;have bz5:=k.ext a;clear F a H G;go_wp2_with fail
   have E:=(zaV [3,6,7,5,1,0,12] 7 #[(3:Int),(6:Int),(7:Int),(5:Int),(1:Int),(0:Int),(12:Int)] rfl rfl oM oM C oM);simp only [World.size_alloc] at E;refine E.mono ?_;rintro e X ⟨al,hal,rfl,hr6,b⟩;have hw6:=(D.ext ((cY _).alloc _)).trans b;have bz6:=(bz5.ext ((cY _).alloc _)).dr b oM;exact yW15a1
  ·have i:=G rfl;have Y:=F.cell;have f:=k.ext a;have u:=f.cell;have I:=f.frozen;go_wp2_with fail
   generalize w4.alloc _=w5 at *;have zkk:=zhf (R:=R) (M:=M+30000) (L:=20000) (c:=d) (H.ext a) i oM ((hr4.more oM).ext a) (r.ext a) f hRl (dD _);exact bodyPost_ret (v:=j2 #[s.al,s.st,fC B m d]) (by simp [results,Tryz.results257,go_sem,u]) rfl zkk
 ·have T:((y:Int)==0)=j1:=(by rw [beq_eq_false_iff_ne];omega);go_wp2_with fail
  refine (zaV [3,6,7,5,1,0,12] 7 #[(3:Int),(6:Int),(7:Int),(5:Int),(1:Int),(0:Int),(12:Int)] rfl rfl oM oM q oM).mono ?_;rintro e X ⟨al,hal,rfl,hr6,b⟩;have hw6:=(hw1.ext ((cY _).alloc _)).trans b;have bz6:=(g.ext ((cY _).alloc _)).dr b oM;exact yW15a1
def zgL (b:Aut):Prop:=∃ a p:Nat,a<64/\1<=p/\p<=16/\shA a p (letters a 6).length b
theorem zgM.mono {sh sh':Aut->Prop}{e:Ending}(h:zgM R M sh w e w')(hd:Dr R w0 w)(hM:M<=N)(hs:∀ b,sh b->sh' b):zgM R N sh' w0 e w':=by
 obtain⟨b,A,n,c,A',n',c',d,f,hsh,g,a⟩:=h;exact⟨b,A,n,c,A',n',c',d,f.less hd.size,za (hs b hsh.out),g.more hM,hd.trans a⟩
theorem zjj {sh:Aut->Prop}{t:TypeId}(hx:Ext w w0)(ho:zac W w0.heap.size A n c A' n' c' b)(hsh:sh b)(hr:Rd W R M)(hd:Dr R w0 W) (bz:Blk w0 Z t cs)(hc:cs.size=3)(hR:R<w.heap.size)(hZ:w.heap.size<=Z)(hM:M<=N) :
  Hid (zgM R N sh w (j5 (j2 #[b.al,fC A n c,fC A' n' c'])) (((W.setCell Z b.al).setCell ⟨Z,1,fV⟩ (fC A n c)).setCell ⟨Z,2,fV⟩ (fC A' n' c'))) /\
  Blk (((W.setCell Z b.al).setCell ⟨Z,1,fV⟩ (fC A n c)).setCell ⟨Z,2,fV⟩ (fC A' n' c')) Z t #[.int iX b.al,fC A n c,fC A' n' c']:=by
 have d:=bz.lt;have a:=zV W Z (.int iX b.al) (fC A n c) (fC A' n' c');refine⟨za ⟨b,A,n,c,A',n',c',rfl,(ho.keep a (fun b h1 e=>oM)).less hx.size,za hsh,(hr.more hM).frm a (fun k hk e=>oM),?_⟩,zah (bz.dr hd oM) hc _ _ _⟩;exact (((hx.dr.trans hd).ag (p:=⟨Z,0,fV⟩) hZ _).ag (p:=⟨Z,1,fV⟩) hZ _).ag (p:=⟨Z,2,fV⟩) hZ _
theorem spec_l1Some (h:Rd w R M)(hM:M<=900000000) :
  j6 j3 272 #[kB (fU R)] w (fun e w'=>∃ x:Nat,x<64/\e=j5 (.int iX x)/\Rd w' R (M+1)/\Dr R w w'):=by
 go_enter Tryz.func272,Tryz.ntmps272
 go_wp2_with fail
 refine (zaV [3,7,1,5,0,6,63,2,21] 9 #[(3:Int),(7:Int),(1:Int),(5:Int),(0:Int),(6:Int),(63:Int),(2:Int),(21:Int)] rfl rfl oM oM h oM).mono ?_;rintro e f ⟨x,c,rfl,b,a⟩;obtain⟨y,d,rfl⟩:∃ y:Nat,y<64/\x=(y:Int):=⟨x.toNat,by simp at c;omega,by simp at c;omega⟩;clear c;go_wp2_with fail
 go_ret;exact⟨y,d,rfl,b,((Dr.refl R w).alloc _).trans a⟩
theorem yW15a2 {P:Prop}(h:P:=by
 intro e w4 hret;obtain⟨b,A,n,c,A',n',c',rfl,zkh,hsh,hr4,hd4⟩:=hret.mono (N:=M+500) (sh':=zgL) hd13 oM (fun b hb=>⟨a,p,ha,hp1,oM,hb⟩);obtain⟨f1,f2⟩:=zjj (N:=M+500) (sh:=zgL) hxz zkh hsh.out hr4 hd4 bz rfl hRl (Nat.le_refl _) (Nat.le_refl _);have bz5:=bz.dr hd4 oM;have cZ:=bz5.cell;have fZ:=bz5.frozen;go_wp2_with fail
 have cf:=f2.cell;exact bodyPost_ret (v:=.agg #[b.al,.slice A n c,.slice A' n' c']) (by simp [results,Tryz.results74,go_sem,cf]) rfl f1.out
 ):P:=h
theorem spec_l3Over (h:Rd w R M)(hM:M<=800000000)(ha:a<64) :
  j6 j3 74 #[kB (fU R),a] w (zgM R (M+500) zgL w):=by
 have hRl:=h.lt
 go_enter Tryz.func74,Tryz.ntmps74
 go_wp2_with fail
 generalize U0:w.alloc _=l at *;have hxz:=Ext.al_ U0;have bz:=eA U0;clear U0;refine (zF (h.ext hxz) oM).mono ?_;rintro e m ⟨y,rfl,-,-,g,f⟩
 by_cases hy:y=0
 ·subst hy;go_wp2_with fail
  refine (zaV [3,2,4,1] 4 #[(3:Int),(2:Int),(4:Int),(1:Int)] rfl rfl oM oM g oM).mono ?_;rintro e k ⟨x,b,rfl,d,c⟩;obtain⟨p,hp1,i,rfl⟩:∃ y:Nat,1<=y/\y<=4/\x=(y:Int):=⟨x.toNat,by simp at b;omega,by simp at b;omega,by simp at b;omega⟩;clear b;have hd13:=(f.alloc _).trans c;go_wp2_with fail
  refine (zhU d oM ha hp1 oM).mono ?_;exact yW15a2
 ·have j:((y:Int)==0)=j1:=by simp;omega
  go_wp2_with fail
  refine (zaV [2,3,1,4,5] 5 #[(2:Int),(3:Int),(1:Int),(4:Int),(5:Int)] rfl rfl oM oM g oM).mono ?_;rintro e k ⟨x,b,rfl,d,c⟩;obtain⟨p,hp1,i,rfl⟩:∃ y:Nat,1<=y/\y<=5/\x=(y:Int):=⟨x.toNat,by simp at b;omega,by simp at b;omega,by simp at b;omega⟩;clear b;have hd13:=(f.alloc _).trans c;go_wp2_with fail
  refine (zgd d oM ha oM).mono ?_;exact yW15a2
section
variable {w0 W W':jX}{R G M N:Nat}{al:Int}{v vA:j4}{rows:List j4}{ls:List (List Int)}{acc:List Bool}
theorem zbK.setAl (h:zbK w0 W R G M al v rows ls vA acc) (x:Int):zbK w0 (W.setCell G x) R G M x v rows ls vA acc:=by
 have d:=h.hR;have a:=h.hG;have c:=dG W G 0 (.int iX x);refine⟨by simpa using h.blk.ae 0 _,zf h.nx c (fun b hb hS=>zq h.nx h.blk dM hb hS),h.rows.frm c (fun i r b hr hb hS=>?_),zf h.acc c (fun b hb hS=>zq h.acc h.blk dM hb hS),h.rd.frm c (fun k hk e=>oM),h.dr.ag (p:=⟨G,0,fV⟩) a _,d,a⟩;obtain⟨g,_,f⟩:=h.rows.row hr;exact zq f h.blk dM hb hS
theorem zbK.setNext (h:zbK w0 W R G M al v rows ls vA acc) (ho:W.ownsRow w0.heap.size 110 1 v' 0 []):zbK w0 (W.setCell ⟨G,1,fV⟩ v') R G M al v' [] [] vA acc:=by
 have c:=h.hR;have a:=h.hG;have d:=dG W G 1 v';exact⟨by simpa using h.blk.ae 1 _,zf ho d (fun b hb hS=>zq ho h.blk dM hb hS),zB.nil _ _,zf h.acc d (fun b hb hS=>zq h.acc h.blk dM hb hS),h.rd.frm d (fun k hk e=>oM),h.dr.ag (p:=⟨G,1,fV⟩) a _,c,a⟩
theorem zbK.setMarks (h:zbK w0 W R G M al v rows ls vA acc) (ho:W.ownsRow w0.heap.size 4 1 v' 0 []):zbK w0 (W.setCell ⟨G,2,fV⟩ v') R G M al v rows ls v' []:=by
 have d:=h.hR;have a:=h.hG;have c:=dG W G 2 v';refine⟨by simpa using h.blk.ae 2 _,zf h.nx c (fun b hb hS=>zq h.nx h.blk dM hb hS),h.rows.frm c (fun i r b hr hb hS=>?_),zf ho c (fun b hb hS=>zq ho h.blk dM hb hS),h.rd.frm c (fun k hk e=>oM),h.dr.ag (p:=⟨G,2,fV⟩) a _,d,a⟩;obtain⟨f,_,ho⟩:=h.rows.row hr;exact zq ho h.blk dM hb hS
theorem zbK.growRow {row:j4}{cap gN cN nN:Nat}(h:zbK w0 W R G M al (fC (fU gN) nN cN) rows ls vA acc)(hn:nN=ls.length)(hr:rows[i]?=fU row)(hl:ls[i]?=fU l)
  (zkh:W'.ownsRow w0.heap.size 3 1 (fC (fU g) (l.length+1) cap) (l.length+1) (ints l++[.int iX x])) (hg:W.grownBy W' row.ownBlock) (hat:row.ownBlock=fU g\/g=W.heap.size+1) :
  (∀ u,W.cell? ⟨G,u,fV⟩=W'.cell? ⟨G,u,fV⟩)/\Hid (W'.cell? ⟨gN,i,fV⟩=fU row)/\W'.frozen? ⟨gN,i,fV⟩=j1 /\
  zbK w0 (W'.setCell ⟨gN,i,fV⟩ (fC (fU g) (l.length+1) cap)) R G M al (fC (fU gN) nN cN) (rows.set i (fC (fU g) (l.length+1) cap)) (ls.set i (l++[x])) vA acc:=by
 subst hn;have z:=h.hR;have y:=h.hG;have F:i<ls.length:=(j9.1 hl).1;have t:=h.rows.2.1 i _ l hr hl;have n:Frm (fun k=>row.ownBlock=fU k) W W':=Frm.ab hg;obtain⟨B,E⟩:=h.grown t hg;have v:Blk W' G 27 #[.int iX al,fC (fU gN) ls.length cN,vA]:=h.blk.frm n (fun e=>zq t h.blk dM e rfl);have a:W'.ownsRow w0.heap.size 110 1 (fC (fU gN) ls.length cN) ls.length rows:=zf h.nx n (fun b hb hS=>zas h.nx t dM hb hS);have s:W'.ownsRow w0.heap.size 4 1 vA acc.length (zY acc):=zf h.acc n (fun b hb hS=>zas h.acc t dM hb hS);have C:=(a.lt gN rfl).1;have q:=h.rows.1;have d:∀ (j:Nat) (r:j4) (b:Nat),j≠i->rows[j]?=fU r->r.ownBlock=fU b->b≠g:=fun j r b hji hj hb e=>by
  subst e;rcases hat with h1|h1
  ·exact h.rows.2.2 j i r row b hj hr hji hb h1
  ·have:=h.low j r b hj hb;omega
 have f:zB W' w0.heap.size (rows.set i (fC (fU g) (l.length+1) cap)) (ls.set i (l++[x])):=by
  refine⟨by simp [q],fun j r m hj hm=>?_,fun j j' r r' b hj hj' hne hb=>?_⟩
  ·by_cases hji:i=j
   ·subst hji;rw [eX oM] at hj;rw [eX F] at hm;obtain rfl:=j8 hj;obtain rfl:=j8 hm;simpa [ints] using zkh
   ·rw [fQ hji] at hj hm;exact zf (h.rows.2.1 j r m hj hm) n (fun b hb hS=>h.rows.2.2 j i r row b hj hr (fun e=>hji e.symm) hb hS)
  ·by_cases hji:i=j
   ·subst hji;rw [eX oM] at hj;obtain rfl:=j8 hj;rw [fQ hne] at hj';have o:g=b:=by simpa [Value.ownBlock] using hb
    subst o;exact fun hc=>d j' r' _ (fun e=>hne e.symm) hj' hc rfl
   ·rw [fQ hji] at hj
    by_cases hji':i=j'
    ·subst hji';rw [eX oM] at hj';obtain rfl:=j8 hj';intro hc;have o:g=b:=by simpa [Value.ownBlock] using hc
     exact d j r b (fun e=>hji e.symm) hj hb o.symm
    ·rw [fQ hji'] at hj';exact h.rows.2.2 j j' r r' b hj hj' hne hb
 have c:=dG W' gN i (fC (fU g) (l.length+1) cap);refine⟨fun u=>by rw [h.blk.cell,v.cell],za (by rw [a.cellAt i oM,hr]),a.frozenAt i,⟨v.frm c (fun e=>zq a v dM rfl e.symm),?_,?_,zf s c (fun b hb hS=>?_),E.frm c (fun k hk e=>oM),B.ag (p:=⟨gN,i,fV⟩) C _,z,y⟩⟩
 ·rw [e9];exact (a.stored i _).1
 ·refine f.frm c (fun j r b hj hb hS=>?_);obtain⟨H,_,D⟩:=f.row hj;subst hS;exact zas D a dM hb rfl
 ·subst hS;exact zas s a dM hb rfl
end
def BdL (L:Nat) (ls:List (List Int)) (acc:List Bool):Prop:=ls.length<=L/\acc.length<=L/\∀ l∈ls,l.length<=L
theorem BdL.more {K:Nat}{ls:List (List Int)}{acc:List Bool}(h:BdL L ls acc)(hK:L<=K):BdL K ls acc:=⟨dL h.1 hK,dL h.2.1 hK,fun l hl=>dL (h.2.2 l hl) hK⟩
def BdA (L:Nat) (b:Aut):Prop:=BdL L b.next b.acc
theorem BdA.of (h:zgL b):BdA 16 b:=by
 obtain⟨a,p,ha,hp1,hp,h1,d,h3,c⟩:=h;exact⟨oM,oM,fun l hl=>by have:=c l hl;have:=zA a 6;omega⟩
theorem tot_le :∀ ls:List (List Int),(∀ l∈ls,l.length<=L)->tot ls<=ls.length*L
 |[],_=>by simp [tot]
 |l :: r,h=>by
  have:=tot_le r (fun x hx=>h x (by simp [hx]))
  have:=h l sM
  rw [tot_cons,fN,Nat.add_mul]
  omega
theorem BdA.size (h:BdA L b)(hL:L<=200):b.size<=1048576:=by
 have h1:=tot_le b.next h.2.2;have a:b.next.length*L<=200*200:=Nat.mul_le_mul (dL h.1 hL) hL;have h3:=h.1;have c:=h.2.1;unfold Aut.size;omega
theorem eq_edge (a b c d e f:Int) (w:jX):(Op.equalIn 10000 117 (j2 #[a,b,c]) (j2 #[d,e,f])).run j3 w=.ok (a==d&&(b==e&&c==f)) w:=by
 have i:=Tryz.underlying3;have h:=Tryz.isAgg3;have j:=Tryz.sizeOf3;have g:j3.underlying 117=fU (.struct (j3.fieldsOf 117)):=kM;have hp:j3.stoodInHeld 117=j1:=kM;rw [show (10000:Nat)=9999+1 from rfl,run_equalIn_agg w 9999 117 _ _ g hp];simp only [Program.fieldsOf,Tryz.underlying117];go_simp
 by_cases h1:a=d<;>by_cases h2:b=e<;>by_cases h3:c=f<;>simp [h1,h2,h3]
theorem wrong_acc (hr:Rd w R M)(hx:Ext w w1)(hR:R<w.heap.size)(hxW:Ext w1 W) (zkh:W.ownsRow w1.heap.size 117 3 v es.length (zw es))(hG:w1.heap.size<=G)(hB:Blk W G 38 #[al,st,v]) :
  Acc w w1 W R G M al st v es:=
 ⟨hB,zkh,hr.ext (hx.trans hxW),(hx.trans hxW).dr,hxW.ak,hR,hx.size,dL hx.size hG⟩
theorem edge_lit (w:jX):(w.alloc (.cells #[] 117)).drew.ownsRow w.heap.size 117 3 (fC (fU w.heap.size) 0 0) 0 []:=
 World.ownsRow_lit w #[] 0 (dD _) lM rfl
theorem zju (hn:n=es.length)(h:W.ownsRow base 117 3 v n (zw es)):W.ownsRow base 117 3 v es.length (zw es):=by
 subst hn;exact h
theorem zgK (hr:Rd w R M)(hx:Ext w w1)(hR:R<w.heap.size)(hxW:Ext w1 W) (zkh:W.ownsRow w1.heap.size 117 3 v es.length (zw es))(hB:Blk W G 38 #[(0:Int),(0:Int),()])(hG:w1.heap.size<=G) :
  ∃ (G':Nat) (v':j4),Value.pointer (fU G)=.pointer (fU G')/\w1.heap.size<=G'/\Acc w w1 (((W.setCell G al).setCell ⟨G,1,fV⟩ st).setCell ⟨G,2,fV⟩ v) R G' M al st v' es:=by
 have h:=zeO W G (.int iX al) (.int iX st) v;have c:∀ b,v.ownBlock=fU b->b≠G:=by
  rintro b a rfl;rcases zkh.2 with ⟨rfl,_⟩|⟨g,d,f,rfl,_,j,_⟩
  ·simp [Value.ownBlock] at a
  ·have i:g=b:=by simpa [Value.ownBlock] using a
   subst i;unfold Blk at hB;rw [j] at hB;injection hB with hB
   injection hB with _ ht
   exact absurd ht dM
 refine⟨G,v,rfl,hG,wrong_acc hr hx hR ?_ (zf zkh h (fun b a hS=>c b a hS)) hG (by simpa using ((hB.ae 0 (.int iX al)).ae 1 (.int iX st)).ae 2 v)⟩;exact ((hxW.setCell (p:=⟨G,0,fV⟩) hG _).setCell (p:=⟨G,1,fV⟩) hG _).setCell (p:=⟨G,2,fV⟩) hG _
theorem zgX {wB:jX}(h:Acc w0 wB W R G M al st (fC A n c) es)(hn:0<n):∃ g,A=fU ⟨g,0,fV⟩:=by
 rcases h.own.2 with ⟨a,h0⟩|⟨g,b,d,a,_⟩
 ·injection a with _ h2 _;omega
 ·injection a with h1
  exact⟨g,h1⟩
theorem yW15a4 {P:Prop}(h:P:=by
 have h1':=h1.out;refine zR fun K hK=>?_;go_simp;refine hK.out _ _ ?_;refine zap ?_;go_wp2_with fail
 go_meet;exact⟨_,_,_,_,h3.more oM,by have:=HnL.out;simp;omega⟩
 ):P:=h
theorem yW15a5 {P:Prop}(h:P:=by
 refine zR fun K hK=>?_;go_simp;refine hK.out _ _ ?_;refine zap ?_;go_wp2_with fail
 go_meet;exact⟨_,_,_,_,hst.more oM,by have:=HnL.out;simp;omega⟩
 ):P:=h
theorem zbZ (h:Rd w R M)(hM:M<=900000000)(hs:zbN w R A n s)(hn:n<=L)(hL:L<=100000) :
  j6 j3 117 #[kB (fU R),j2 #[s.al,s.st,fC A n c]] w (RetA R (M+10) (L+1) w):=by
 have hRl:=h.lt;have T:=hs.at_.2;have F:=za hs.1;obtain⟨al,st,d⟩:=s;simp only at T F ⊢;obtain⟨b,U0⟩:∃ x,Hid ((w.alloc (.cells #[al,st,fC A n c] 38)).alloc (.cells #[(0:Int),(0:Int),()] 38)=x):=⟨_,za rfl⟩;have au:Ext w b:=(((cY _).alloc _).alloc _).trans (e6 U0.out);obtain⟨bS,bZ⟩:=zN (e6 U0.out);have ar:b.heap.size=w.heap.size+2:=by rw [<- U0.out];simp
 have ay:=za bS;have ah:=za bZ;have D:=za au;have az:=za ar;clear bS bZ au ar hs
 go_enter Tryz.func117,Tryz.ntmps117
 go_wp2_with fail
 rw [U0.out] at *;have a0:w.heap.size+2<=b.heap.size:=by rw [az.out];exact dD _
 go_upto_region 1 with fail
 go_cut [5] (fun s5 wx=>∃ (G:Nat) (v:j4),s5=.pointer (fU G)/\b.heap.size<=G/\Acc w b wx R G M al st v d)
 case first =>
  have cS:=fun W (hW:Ext b W)=>(ay.out.ext hW).cell;refine tR (fun X=>Ext b X) [10] (Ord.app [0,1,2,3,5,6] (Ord.two 4 (Ord.two 7 (Ord.of [8,9,10]) 9 (Ord.of [7,8,10])) 9 (Ord.of [4,7,8,10]))) ?_;refine tQ ?_;refine zgi (fun K hK=>?_) (fun K hK=>?_)
  ·go_simp;have l:Ext b (b.alloc (.cells #[] 117)).drew:=((cY b).alloc _).drew;have zkh:(b.alloc (.cells #[] 117)).drew.ownsRow b.heap.size 117 3 (fC (fU b.heap.size) 0 0) 0 []:=edge_lit b;have ab:(b.alloc (.cells #[] 117)).drew.heap.size=b.heap.size+1:=sM;refine hK.out _ _ l ?_;refine pT ?_;generalize (b.alloc (.cells #[] 117)).drew=w2 at *;refine zgi (fun K hK=>?_) (fun K hK=>?_)
   ·refine zx _ _ _ _ rfl b.heap.size 117 _ 3 24 Tryz.underlying36 zbf rfl dM (fC (fU b.heap.size) 0 0) 0 [] rfl zkh (R+1) w.heap.size A n c (zw d) rfl (T.ext (D.out.trans l)) (zcP d) lM oM l.size ?_;intro v w3 zks hg3 hat3;rw [dW,eI] at zks;obtain⟨A3,c3,rfl⟩:=zh zks;have i:Ext b w3:=l.grown hg3 (fun k E=>by simp [Value.ownBlock] at E;omega);refine hK.out _ _ i ?_;refine pT ?_;refine tQ ?_;refine zD fun K hK=>?_;go_simp;refine hK.out _ _ (i.alloc _) ?_;refine pT ?_;refine tQ ?_;refine zR fun K hK=>?_;go_simp;refine hK.out _ _ ?_;refine zap ?_;go_wp2_with fail
    go_meet;exact⟨w3.heap.size,fC A3 n c3,rfl,i.size,wrong_acc h D.out hRl (i.alloc _) (zi (zju F.out zks) ((cY _).alloc _)) i.size (dZ _ _ _)⟩
   ·go_simp;have i:=l.alloc (.cells #[(0:Int),(0:Int),()] 38);have av:=(cY w2).alloc (.cells #[(0:Int),(0:Int),()] 38);replace zkh:=zi zkh av;refine hK.out _ _ i ?_;generalize U0:w2.alloc _=a2 at *;have O:=eA U0;clear U0;rw [ab] at O;have l:=i;refine pT ?_;refine zD (fun K hK=>?_);refine zx _ _ _ _ rfl b.heap.size 117 _ 3 24 Tryz.underlying36 zbf rfl dM (fC (fU b.heap.size) 0 0) 0 [] rfl zkh (R+1) w.heap.size A n c (zw d) rfl (T.ext (D.out.trans l)) (zcP d) lM oM l.size ?_;intro v w3 zks hg3 hat3;rw [dW,eI] at zks;obtain⟨A3,c3,rfl⟩:=zh zks;have i:Ext b w3:=l.grown hg3 (fun k E=>by simp [Value.ownBlock] at E;omega);have t:Blk w3 (b.heap.size+1) 38 #[.int iX 0,.int iX 0,fC fV 0 0]:=O.frm (Frm.ab hg3) (by simp [Value.ownBlock]);refine hK.out _ _ i ?_;refine pT ?_;refine tQ ?_;have cE:=t.cell;have fE:=t.frozen;refine zR fun K hK=>?_;go_simp;refine hK.out _ _ ?_;refine zap ?_;go_wp2_with fail
    go_meet;exact zgK h D.out hRl i (zju F.out zks) t oM
  ·go_simp;have l:Ext b (b.alloc (.cells #[(0:Int),(0:Int),()] 38)).drew:=((cY b).alloc _).drew;have aA:Blk (b.alloc (.cells #[(0:Int),(0:Int),()] 38)).drew b.heap.size 38 #[.int iX 0,.int iX 0,fC fV 0 0]:=dZ b _ _;have ab:(b.alloc (.cells #[(0:Int),(0:Int),()] 38)).drew.heap.size=b.heap.size+1:=sM;refine hK.out _ _ l ?_;refine pT ?_;generalize (b.alloc (.cells #[(0:Int),(0:Int),()] 38)).drew=w2 at *;refine zD fun K hK=>?_;go_simp;have i:=l.alloc (.cells #[] 117);have zkh:(w2.alloc (.cells #[] 117)).ownsRow b.heap.size 117 3 (fC (fU ⟨b.heap.size+1,0,fV⟩) 0 0) 0 []:=by
    rw [<- ab];exact World.ownsRow_lit w2 #[] 0 l.size lM rfl
   have O:=aA.ext ((cY w2).alloc (.cells #[] 117));refine hK.out _ _ i ?_;generalize w2.alloc _=w3 at *;refine pT ?_;refine zD (fun K hK=>?_);refine zx _ _ _ _ rfl b.heap.size 117 _ 3 24 Tryz.underlying36 zbf rfl dM (fC (fU ⟨b.heap.size+1,0,fV⟩) 0 0) 0 [] rfl zkh (R+1) w.heap.size A n c (zw d) rfl (T.ext (D.out.trans i)) (zcP d) lM oM i.size ?_;intro v w4 hown4 hg4 hat4;rw [dW,eI] at hown4;obtain⟨A4,c4,rfl⟩:=zh hown4;have aw:Ext b w4:=i.grown hg4 (fun k E=>by simp [Value.ownBlock] at E;omega);have t:Blk w4 b.heap.size 38 #[.int iX 0,.int iX 0,fC fV 0 0]:=O.frm (Frm.ab hg4) (by simp [Value.ownBlock]);refine hK.out _ _ aw ?_;refine pT ?_;refine tQ ?_;have cE:=t.cell;have fE:=t.frozen;refine zR fun K hK=>?_;go_simp;refine hK.out _ _ ?_;refine zap ?_;go_wp2_with fail
   go_meet;exact zgK h D.out hRl aw (zju F.out hown4) t (dD _)
 case rest =>
  obtain⟨G,v,rfl,aY,a⟩:=hcut;obtain⟨A1,n1,c1,rfl⟩:=a.form;obtain⟨rfl,aq⟩:=a.reads;have aZ:=a.hG;have J:=a.blk.cell;have ao:=aq.2.len;clear aq;have aD:d.length<=L:=oH F.out;have HnL:=za aD;go_wp2_with fail
  refine (zF (n:=d.length) a.rd oM).mono ?_;rintro e w3 ⟨k,rfl,am,aC,ap,ak⟩;replace a:=a.drawn ak ap;clear ak ap J;have Hk:=za am;clear am aC;go_wp2_with fail
  refine (zF (n:=30) a.rd oM).mono ?_;rintro e w4 ⟨y,rfl,-,-,hr4,hd4⟩;replace a:=a.drawn hd4 hr4;clear hd4 hr4;go_upto_block 0 with fail
  go_cut [] (fun wx=>∃ (al st:Int) (v:j4) (V:List Edg),Acc w b wx R G (M+10) al st v V/\V.length<=L+1)
  case first =>
   have aS:=za ao;clear ao;have Q:y=0\/y=1\/y=2\/y=3\/y=4\/y=5\/y=6\/7<=y:=oM;rcases Q with C|C|C|C|C|C|C|C
   ·subst C;have aE:True:=trivial;go_wp2_with fail
    refine (zaV [64,(-1),1,63] 4 #[(64:Int),.int iX (-1),(1:Int),(63:Int)] rfl rfl oM oM a.rd oM).mono ?_;rintro e H ⟨x,-,rfl,p,j⟩;replace a:=(a.ext ((cY _).alloc _)).drawn j p;have J:=a.blk.cell;have fG:=a.blk.frozen;go_wp2_with fail
    go_meet;exact⟨_,_,_,d,(a.setAl x).more oM,oH HnL.out⟩
   ·subst C;have aE:True:=trivial;go_wp2_with fail
    refine (zaV [0,17,(-1),16,1] 5 #[(0:Int),(17:Int),.int iX (-1),(16:Int),(1:Int)] rfl rfl oM oM a.rd oM).mono ?_;rintro e H ⟨x,-,rfl,p,j⟩;replace a:=(a.ext ((cY _).alloc _)).drawn j p;have J:=a.blk.cell;have fG:=a.blk.frozen;go_wp2_with fail
    go_meet;exact⟨_,_,_,d,(a.setSt x).more oM,oH HnL.out⟩
   ·subst C
    by_cases hn0:0<d.length
    ·have E:=Hk.out oM;have B:k<d.length:=oM;obtain⟨g,rfl⟩:=zgX a hn0;have o:d.length≠0:=oM;have Y:R<b.heap.size:=by have:=a.hR;have:=a.hB;omega
     have J:∀ W,Dr R w4 W->∀ q,W.cell? ⟨G,q,fV⟩=#[Value.int iX al,.int iX st,fC (fU g) d.length c1][q]?:=fun W hW=>(a.blk.dr hW (oH a.hG)).cell;clear E o;go_wp2_with fail
     refine tR (fun X=>Dr R w4 X) [8] (Ord.of [0,1,2,3,4,5,6,7,8]) ?_;refine tQ ?_;refine zD fun K hK=>?_;go_simp;refine hK.out _ _ ((Dr.refl R w4).drew.alloc _) ?_;refine pT ?_;refine tQ ?_;refine zD fun K hK=>?_;go_simp;refine (zaV (w:=w4.drew) [(-1),16,0,2] 4 #[.int iX (-1),(16:Int),(0:Int),(2:Int)] rfl rfl oM oM (a.rd.ext (cY _).drew) oM).mono ?_;rintro e H ⟨x,-,rfl,p,j⟩;have m:Dr R w4 H:=((Dr.refl R w4).drew.alloc _).trans j;have f:=a.drawn m p;refine hK.out _ _ m ?_;refine pT ?_;refine tQ ?_;have zkh:=f.own;obtain⟨o0,c0⟩:=zaF zkh (k*3) oM;have f0:=zkh.frozenAt (k*3);have hst:=f.turn rfl (zec (dB B) x).1 sM;exact yW15a5
    ·have aa:d.length=0:=oM;clear hn0;go_wp2_with fail
     go_meet;exact⟨_,_,_,d,a.more oM,oH HnL.out⟩
   ·subst C
    by_cases hn0:0<d.length
    ·have E:=Hk.out oM;have B:k<d.length:=oM;obtain⟨g,rfl⟩:=zgX a hn0;have o:d.length≠0:=oM;have Y:R<b.heap.size:=by have:=a.hR;have:=a.hB;omega
     have J:∀ W,Dr R w4 W->∀ q,W.cell? ⟨G,q,fV⟩=#[Value.int iX al,.int iX st,fC (fU g) d.length c1][q]?:=fun W hW=>(a.blk.dr hW (oH a.hG)).cell;clear E o;go_wp2_with fail
     refine tR (fun X=>Dr R w4 X) [8] (Ord.of [0,1,2,3,4,5,6,7,8]) ?_;refine tQ ?_;refine zD fun K hK=>?_;go_simp;refine hK.out _ _ ((Dr.refl R w4).drew.alloc _) ?_;refine pT ?_;refine tQ ?_;refine zD fun K hK=>?_;go_simp;refine (zaV (w:=w4.drew) [(-1),16,0,3] 4 #[.int iX (-1),(16:Int),(0:Int),(3:Int)] rfl rfl oM oM (a.rd.ext (cY _).drew) oM).mono ?_;rintro e H ⟨x,-,rfl,p,j⟩;have m:Dr R w4 H:=((Dr.refl R w4).drew.alloc _).trans j;have f:=a.drawn m p;refine hK.out _ _ m ?_;refine pT ?_;refine tQ ?_;have zkh:=f.own;obtain⟨o0,c0⟩:=zaF zkh (k*3+2) oM;have f0:=zkh.frozenAt (k*3+2);have hst:=f.turn rfl (zec (dB B) x).2.2 sM;exact yW15a5
    ·have aa:d.length=0:=oM;clear hn0;go_wp2_with fail
     go_meet;exact⟨_,_,_,d,a.more oM,oH HnL.out⟩
   ·subst C
    by_cases hn0:0<d.length
    ·have E:=Hk.out oM;have B:k<d.length:=oM;obtain⟨g,rfl⟩:=zgX a hn0;have o:d.length≠0:=oM;have Y:R<b.heap.size:=by have:=a.hR;have:=a.hB;omega
     have J:∀ W,Dr R w4 W->∀ q,W.cell? ⟨G,q,fV⟩=#[Value.int iX al,.int iX st,fC (fU g) d.length c1][q]?:=fun W hW=>(a.blk.dr hW (oH a.hG)).cell;clear E o;go_wp2_with fail
     refine tR (fun X=>Dr R w4 X) [8] (Ord.of [0,1,2,3,4,5,6,7,8]) ?_;refine tQ ?_;refine zD fun K hK=>?_;go_simp;refine hK.out _ _ ((Dr.refl R w4).drew.alloc _) ?_;refine pT ?_;refine tQ ?_;refine zD fun K hK=>?_;go_simp;refine (zaV (w:=w4.drew) [(-1),6,70,5,0] 5 #[.int iX (-1),(6:Int),(70:Int),(5:Int),(0:Int)] rfl rfl oM oM (a.rd.ext (cY _).drew) oM).mono ?_;rintro e H ⟨x,-,rfl,p,j⟩;have m:Dr R w4 H:=((Dr.refl R w4).drew.alloc _).trans j;have f:=a.drawn m p;refine hK.out _ _ m ?_;refine pT ?_;refine tQ ?_;have zkh:=f.own;obtain⟨o0,c0⟩:=zaF zkh (k*3+1) oM;have f0:=zkh.frozenAt (k*3+1);have hst:=f.turn rfl (zec (dB B) x).2.1 sM;exact yW15a5
    ·have aa:d.length=0:=oM;clear hn0;go_wp2_with fail
     go_meet;exact⟨_,_,_,d,a.more oM,oH HnL.out⟩
   ·subst C
    by_cases hn0:0<d.length
    ·have E:=Hk.out oM;have B:k<d.length:=oM;obtain⟨g,rfl⟩:=zgX a hn0;have o:d.length≠0:=oM;have zkh:=a.own;have hE:=za (dB B);obtain⟨ed,aB⟩:∃ ed,Hid (d[k]?=fU ed):=⟨_,hE.out⟩;obtain⟨d0,d1,d2⟩:=zcO aB.out;have J:=fun W (hW:Ext w4 W)=>(a.blk.ext hW).cell;have C0:∀ W,Ext w4 W->W.cell? ⟨g,k*3,fV⟩=fU (.int iX ed.fr):=fun W hW=>hW.aa (by rw [zkh.cellAt _ oM];exact d0);have C1:∀ W,Ext w4 W->W.cell? ⟨g,k*3+1,fV⟩=fU (.int iX ed.le):=fun W hW=>hW.aa (by rw [zkh.cellAt _ oM];exact d1);have C2:∀ W,Ext w4 W->W.cell? ⟨g,k*3+2,fV⟩=fU (.int iX ed.ta):=fun W hW=>hW.aa (by rw [zkh.cellAt _ oM];exact d2);clear E o d0 d1 d2;go_wp2_with fail
     refine tR (fun X=>Ext w4 X) [8,10] (Ord.of [0,1,2,3,4,5,6,7,8,9,10]) ?_;refine tQ ?_;refine zD fun K hK=>?_;go_simp;refine hK.out _ _ ((cY _).drew.alloc _) ?_;refine pT ?_;refine zR fun K hK=>?_;refine zaC b w4.drew _ _ _ rfl 117 _ 3 24 Tryz.underlying36 zbf rfl dM (fC (fU g) d.length c1) d.length (zw d) _ _ rfl rfl a.fr.size zkh rfl (by simp [Value.oneCell']) lM oM ?_;intro g5 cap5 H zkt hg5 hat5 hlt5;refine hK.out _ _ ?_;refine pT ?_;refine tQ ?_;obtain⟨h1,h2,h3⟩:=(a.ext ((cY _).drew)).push (e:=ed) (W':=H) zkt hg5 hat5;exact yW15a4
    ·have aa:d.length=0:=oM;clear hn0;go_wp2_with fail
     go_meet;exact⟨_,_,_,d,a.more oM,oH HnL.out⟩
   ·subst C;have Y:R<b.heap.size:=by have:=a.hR;have:=a.hB;omega
    have J:∀ W,Dr R w4 W->∀ q,W.cell? ⟨G,q,fV⟩=#[Value.int iX al,.int iX st,fC A1 d.length c1][q]?:=fun W hW=>(a.blk.dr hW (oH a.hG)).cell;go_wp2_with fail
    refine tR (fun X=>Dr R w4 X) [10,12] (Ord.of [0,1,2,4,6,3,5,7,8,9,10,11,12]) ?_;refine tQ ?_;refine zD fun K hK=>?_;go_simp;refine (zF (n:=4) (a.rd.ext (cY _).drew) oM).mono ?_;rintro e H ⟨x,rfl,-,-,p,j⟩;replace j:=((Dr.refl R w4).drew).trans j;refine hK.out _ _ j ?_;refine pT ?_;refine tQ ?_;refine zD fun K hK=>?_;go_simp;refine (zF (n:=3) p oM).mono ?_;rintro e w6 ⟨z,rfl,-,-,hr6,S⟩;replace S:=j.trans S;refine hK.out _ _ S ?_;refine pT ?_;refine tQ ?_;refine zD fun K hK=>?_;go_simp;refine (zF (n:=4) hr6 oM).mono ?_;rintro e w7 ⟨u,rfl,-,-,hr7,hd7⟩;replace hd7:=S.trans hd7;refine hK.out _ _ hd7 ?_;have r:=a.drawn hd7 hr7;refine pT ?_;refine tQ ?_;refine zD fun K hK=>?_;go_simp;refine hK.out _ _ (hd7.alloc _) ?_;refine pT ?_;refine zR fun K hK=>?_;refine zaC b w7 _ _ _ rfl 117 _ 3 24 Tryz.underlying36 zbf rfl dM (fC A1 d.length c1) d.length (zw d) _ _ rfl rfl r.fr.size r.own rfl (by simp [Value.oneCell']) (by unfold maxLen;have:=HnL.out;omega) (oH HnL.out) ?_;intro g8 cap8 w8 hown8 hg8 hat8 hlt8;refine hK.out _ _ ?_;refine pT ?_;refine tQ ?_;obtain⟨h1,h2,h3⟩:=r.push (e:=⟨x,z,u⟩) (W':=w8) hown8 hg8 hat8;exact yW15a4
   ·have h0:((y:Int)==0)=j1:=by simp;omega
    have h1:((y:Int)==1)=j1:=by simp;omega
    have h2:((y:Int)==2)=j1:=by simp;omega
    have h3:((y:Int)==3)=j1:=by simp;omega
    have h4:((y:Int)==4)=j1:=by simp;omega
    have h5:((y:Int)==5)=j1:=by simp;omega
    have h6:((y:Int)==6)=j1:=by simp;omega
    clear C;go_wp2_with fail
    go_meet;exact⟨_,_,_,d,a.more oM,oH HnL.out⟩
  case rest =>
   clear a;obtain⟨I,U,v',V,a,an⟩:=hcut;obtain⟨A',n',c',rfl⟩:=a.form;obtain⟨rfl,_⟩:=a.reads;have J:=a.blk.cell;have aj:=ah.out.frm a.fr oM;have cz:=aj.cell;have a1:=ah.out.lt;have fz:=aj.frozen;obtain⟨f1,f2,f3⟩:=a.fin (Z:=w.heap.size+1) oM oM (.int iX I) (.int iX U) (fC A' V.length c');have ai:=za (show RetA R (M+10) (L+1) w (j5 (j2 #[I,U,fC A' V.length c'])) _ from ⟨⟨I,U,V⟩,A',V.length,c',rfl,f1,⟨an,zjK a.own⟩,f2,f3⟩);clear f1 f2 f3;go_wp2_with fail
   exact bodyPost_ret (v:=j2 #[I,U,fC A' V.length c']) (by simp [results,Tryz.results117,go_sem,cz]) rfl ai.out
end Go.Proofs.YtckbjnndaaoddaaGreatDoor
