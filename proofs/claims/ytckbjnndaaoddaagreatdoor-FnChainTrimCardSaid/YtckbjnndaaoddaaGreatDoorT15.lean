/- impl.(*safet -/
import Derived.Test.YtckbjnndaaoddaaGreatDoorT14
set_option maxHeartbeats 4000000
set_option maxRecDepth 100000
namespace Go.Proofs.YtckbjnndaaoddaaGreatDoor
open Go Go.RowKit
open Blk renaming new->eO
open Ext renaming al_->iP,bl_->eM,eq_->fV,refl->dB,x1_->gY,x2_->gX
open Frm renaming setCell->dG
open Int renaming cast_ofNat_Int->jR,natCast_add->gV
open Nat renaming le_refl->dD
open Reads renaming af->eQ
open Bool renaming false->kK,true->kC
open Go renaming Calls->kQ,Value->kL,World->kJ
open Go.Ending renaming returned->kP
open Go.IntKind renaming i64->kA
open Go.Value renaming agg->kO,bool->kR,pointer->kV,slice->fQ,string->kU
open List renaming getElem?_eq_some_iff->kT
open Option renaming none->gP,some->gO
open _root_.Go.Proofs.Tryz renaming prog->kN
variable {A:Option Addr}{B L Z base c n:Nat}{S:Nat->Prop}{W w w0:kJ}{p:Aut}{ss:List Sys}{v:Bool}{vs:Array kL}{x y z:Sys}
def zhD (F:Sfx):zbs:=fun B W S=>∃ (Ts:List (List Nat)) (nx:Nat->Nat->Int) (k:Nat) (M:List Nat->Option Nat) (vs vn vu:kL),SfI F.s F.p F.L Ts nx/\zfh F Ts nx k M vs vn vu W/\Ts.length<=10000*B+1/\S=sfS F vs vn vu
theorem zhD.ok {F:Sfx}(hF:ziP F):zbs.Ok F.lo (zhD F) where
 lt:=fun ⟨_,_,_,_,_,_,_,_,h,_,e⟩ j hj=>by subst e;exact h.lt hj
 low:=fun ⟨_,_,_,_,_,_,_,_,h,_,e⟩ j hj=>by subst e;exact h.low hF hj
 keep:=fun ⟨Ts,nx,k,M,vs,vn,vu,hI,h,hl,e⟩ hf hT=>by subst e;exact⟨Ts,nx,k,M,vs,vn,vu,hI,h.frmT hF hf hT,hl,rfl⟩
 more:=fun ⟨Ts,nx,k,M,vs,vn,vu,hI,h,hl,e⟩ hBC=>⟨Ts,nx,k,M,vs,vn,vu,hI,h,oM,e⟩
section
variable {F:Sfx}{Ts:List (List Nat)}{nx:Nat->Nat->Int}{k:Nat}{M:List Nat->Option Nat}{vs vn vu:kL}{W:kJ}
theorem zfh.bad {q:Nat}{T:List Nat}(h:zfh F Ts nx k M vs vn (fQ A n c) W)(hT:Ts[q]?=gO T):∃ g,A=gO ⟨g,0,gP⟩/\n=Ts.length/\W.cell? ⟨g,q,gP⟩=gO (.bool (badS F.p T)):=by
 have b:=h.uns;have f:=(kT.1 hT).1;have a:n=Ts.length:=by
  rcases b.2 with ⟨h1,h2⟩|⟨j,i,d,h1,_⟩
  ·injection h1 with _ h3;omega
  ·injection h1
 subst a;obtain⟨g,rfl,-,-⟩:=zW b oM;refine⟨g,rfl,rfl,?_⟩;rw [b.cellAt q oM];simp [zae,unC,hT]
theorem sf_safe (hF:ziP F){x:ByteArray}(hJ:zhD F B W S)(hB:B<10000000)(hx:inB x F.L=kC)(hxs:x.size<=9000) :
  kQ kN 122 #[kV (gO ⟨F.G,0,gP⟩),x] W (RetO (zhD F) (.bool (zo F.s F.p F.L x)) (B+1) S W):=by
 have HF:=za hF;have Hx:=za hx;have Hb:=za (fun k hk=>zaZ (zaV hx) (k:=k) hk);obtain⟨O,nx,k,M,z,v,D,hI,h,hl,rfl⟩:=hJ;obtain⟨T0,R,aa⟩:=hI.start;have g:Hid (SfI F.s F.p F.L O nx/\O[0]?=gO T0/\SfW F.s F.p F.L x 0 T0/\zfh F O nx k M z v D W/\Kq (sfS F z v D) W W (sfS F z v D)/\O.length<=10000*B+1+0):=⟨hI,R,SfW.zero aa,h,Kq.refl,oM⟩;clear hF hx hI R aa h hl
 go_enter Tryz.func122,Tryz.ntmps122
 go_upto_block 0 with fail
 go_wp2_with fail
 go_loopw [5,6] (fun n i wr=>∃ (q a:Nat) (c:List (List Nat)) (m:Nat->Nat->Int) (k':Nat) (M':List Nat->Option Nat) (r o E:kL) (T:List Nat),n=.int kA q/\i=.int kA a/\a<=x.size/\Hid (SfI F.s F.p F.L c m/\c[q]?=gO T/\SfW F.s F.p F.L x a T/\zfh F c m k' M' r o E wr/\Kq (sfS F z v D) W wr (sfS F r o E)/\c.length<=10000*B+1+a)) (fun _ i _=>x.size - (intOf i).toNat)
 case atStart=>exact⟨0,0,O,nx,k,M,z,v,D,T0,rfl,rfl,Nat.zero_le _,g⟩
 case round =>
  clear g;obtain⟨q,a,c,m,k',M',r,o,E,T,rfl,rfl,ha,hh⟩:=hrel;obtain⟨h1,h2,Q,t,I,h6⟩:=hh.out;obtain⟨Au,nu,rfl⟩:=zi t.uns;obtain⟨gu,rfl,-,cu⟩:=t.bad h2;have kG:=t.blk.cell;simp only [sfC] at kG;have aC:(q:Int)<(c.length:Int):=by have:=(kT.1 h2).1;omega
  have b:(a=x.size\/badS F.p T=kC)->Hid (RetO (zhD F) (.bool (zo F.s F.p F.L x)) (B+1) (sfS F z v D) W (kP (.bool (!badS F.p T))) wr):=fun he=>by
   refine⟨_,by rw [Q.fin Hx.out (he.elim (fun e=>.inl (by rw [e,zgv])) (fun e=>.inr e))],⟨⟨c,m,k',M',r,o,_,h1,t,oM,rfl⟩,I.frm,I.new⟩⟩
  by_cases hlt:a<x.size
  ·have an:(a:Int)<(x.size:Int):=oM;cases hb:badS F.p T with
   |true =>
    have d:=b (.inr hb);rw [hb] at d cu;clear b h1 h2 Q t I h6 hh;go_wp2_with fail
    go_ret;exact d.out
   |false =>
    have J:=za hb;rw [hb] at cu;have az:=Hb.out a hlt;have U:=za (zeu hlt);have Y:=za (show ltr (x[a].toNat)=((x[a].toNat - 97:Nat):Int) by unfold ltr;rw [if_neg oM];omega);obtain⟨l,X⟩:∃ l,Hid (l=x[a].toNat - 97):=⟨x[a].toNat - 97,za rfl⟩;rw [<- X.out] at U Y;have ag:l<6:=oH X.out;have H1:=za h1;have H2:=za h2;have H3:=za Q;have H4:=za t;have H5:=za I;clear b h1 h2 Q t I hh hb;go_wp2_with (first
     |(go_at_call 121;refine (zcl x a hlt _).mono ?_;rw [Y.out];rintro e w6 ⟨rfl,rfl⟩)
     |(go_at_call 108;refine (sf_after HF.out H4.out H1.out H2.out ag oM).mono ?_;rintro e w6 ⟨j,f,u,k2,M2,C,y,H,V,rfl,i1,i2,i3,i4,i5,i6,i7⟩))
    have Z:Hid (SfI F.s F.p F.L f u/\f[j]?=gO V/\SfW F.s F.p F.L x (a+1) V/\zfh F f u k2 M2 C y H w6/\Kq (sfS F z v D) W w6 (sfS F C y H)/\f.length<=10000*B+1+(a+1)):=
     ⟨i1,i4,H3.out.step J.out U.out i5,i6,H5.out.trans i7,oM⟩
    go_roundw
    case rel=>exact⟨j,a+1,f,u,k2,M2,C,y,H,V,rfl,gM,oM,Z⟩
    case measure=>exact uM
  ·have aA:¬ (a:Int)<(x.size:Int):=oM;have d:=b (.inl oM);clear b h1 h2 Q t I h6 hh;go_wp2_with fail
   go_ret;exact d.out
end
theorem Tab.frm {T:Nat->Prop}{W':kJ}(h:Tab w)(hx:Ext w W)(hf:Frm T W W')(hT:∀ q,T q->w.heap.size<=q):Tab W':=fun j hj=>by
 have h1:=hx.aa (h j hj)
 have h0:=World.block_lt_of_cell? w _ (h j hj)
 have h2:=World.block_lt_of_cell? W _ h1
 exact (World.cell?_of_block (w:=W) (hf.block _ h2 (fun e=>by have:=hT _ e;omega))).trans h1
structure NsI (F:Sfx) (s:Sys) (p:Aut) (L:Nat) (w wx:kJ):Prop where
 ok:ziP F
 hs:F.s=s
 hp:F.p=p
 hL:F.L=L
 b0:F.b0=w.heap.size
 blk:Blk wx F.G 152 (sfC F (fQ gP 0 0) (fQ gP 0 0) (fQ gP 0 0))
 map:zdI 222 litP domP wx F.mb 0 (fun _=>gP)
 w9:wx=F.w9
 ext:Ext w wx
section
variable {w W:kJ}{lo hi n c m d m' d' L:Nat}{A B B':Option Addr}{s:Sys}{p:Aut}
theorem ns_fin {w1:kJ}{mv rc hc mb:Nat}{RA HA:Option Addr}(hs:zk s=kC)(hp:zj p=kC)(hL:L<64)(hP:zF w lo hi B m B' m' p)(h0:Ext w0 w)(hhi:hi<=w0.heap.size)(hT:Tab w0)(hw1:Ext w w1)(hx:Ext w1 W)(hmvg:w.heap.size<=mv)(hbg:w.heap.size<=base)
  (hmv:MovB W mv s.edges) (htb:∃ bt,w.heap.size<=bt/\W.ownsRow bt 166 6 (fQ RA p.next.length rc) p.next.length (tbC p.next.length (aGo p))) (hhd:W.ownsRow base 3 1 (.slice HA (hidS s L).length hc) (hidS s L).length (zag (hidS s L))) (hmp:zdI 222 litP domP W mb 0 (fun _=>gP)) (hmb:w.heap.size<=mb) :
  ∃ F:Sfx,Value.pointer (gO W.heap.size)=.pointer (gO ⟨F.G,0,gP⟩)/\F.lo=w0.heap.size/\NsI F s p L w (W.alloc (.cells #[s.al,s.st,fQ A n c,p.al,fQ B m d,fQ B' m' d',L,kV (gO mv),fQ RA p.next.length rc,.slice HA (hidS s L).length hc,(),.map (gO mb),(),()] 152)):=by
 have i:=eO W 152 #[s.al,s.st,fQ A n c,p.al,fQ B m d,fQ B' m' d',L,kV (gO mv),fQ RA p.next.length rc,.slice HA (hidS s L).length hc,(),.map (gO mb),(),()];have f:Ext W (W.alloc (.cells #[s.al,s.st,fQ A n c,p.al,fQ B m d,fQ B' m' d',L,kV (gO mv),fQ RA p.next.length rc,.slice HA (hidS s L).length hc,(),.map (gO mb),(),()] 152)):=(dB _).alloc _;generalize W.alloc _=X at *;have u:=(hw1.trans hx).size;have r:=i.lt;have I:=hmp.lt;have g:=(hw1.trans hx).trans f;have j:=hmp.ext f;obtain⟨z,l,H⟩:=hmv.ext f;obtain⟨bt,o,t⟩:=htb;have h:=zh t f;have y:=zh hhd f;refine⟨⟨s,p,L,A,n,c,B,m,d,B',m',d',mv,RA,rc,HA,hc,W.heap.size,mb,w.heap.size,w0.heap.size,X⟩,rfl,rfl,⟨⟨hs,hp,hL,fun Y hY=>?_,h0.size,u,r,hmb,j.lt,by show mb≠W.heap.size;omega⟩,rfl,rfl,rfl,rfl,i,j,rfl,g⟩⟩;have h2:∀ q,Sfx.two ⟨s,p,L,A,n,c,B,m,d,B',m',d',mv,RA,rc,HA,hc,W.heap.size,mb,w.heap.size,w0.heap.size,X⟩ q->w0.heap.size<=q:=fun q hq=>by
  have C:=h0.size;rcases hq with e|e|e
  ·have e':q=W.heap.size:=e;omega
  ·have e':q=mb:=e;omega
  ·exact e.1
 have x:∀ {e:TypeId} {sz k b:Nat} {v:kL} {xs:List kL},X.ownsRow b e sz v k xs->w.heap.size<=b->e≠152->∀ q,v.ownBlock=gO q->¬ Sfx.two ⟨s,p,L,A,n,c,B,m,d,B',m',d',mv,RA,rc,HA,hc,W.heap.size,mb,w.heap.size,w0.heap.size,X⟩ q:=fun ho hbb hne q hq h=>by
  rcases h with e|e|e
  ·exact zN ho i hne hq e
  ·have e':q=mb:=e;subst e';exact j.aj ho hq
  ·have D:q<w.heap.size:=e.2;have E:=(ho.lt q hq).1;omega
 have a:Frm (Sfx.two ⟨s,p,L,A,n,c,B,m,d,B',m',d',mv,RA,rc,HA,hc,W.heap.size,mb,w.heap.size,w0.heap.size,X⟩) X Y:=hY;refine⟨hT.frm (h0.trans g) a h2,MovB.at_ ⟨z,l.frm a (fun h=>?_),H⟩,?_,?_,⟨lo,hi,((hP.2.2.ext g).frm a (fun q _ E h6=>by have:=h2 q h6;omega))⟩⟩
 ·rcases h with e|e|e
  ·exact l.diff i dM e
  ·exact j.far l e
  ·have D:mv<w.heap.size:=e.2;omega
 ·exact TbO.at_ ⟨bt,zf h a (x h o dM)⟩
 ·exact⟨_,_,Lst.ai (zf y a (x y hbg dM))⟩
def T00:List Nat:=(List.replicate 12 0).set 0 1
theorem zfN:zbB T00 12 (fun q i=>q=0/\i=0):=zih (n:=12) dM
theorem T00_ws (h:0<p.next.length):WS p T00:=⟨zfN.1,zfN.2.1,fun i q hb=>by rw [((zfN.2.2 i q).1 hb).2];exact h⟩
def RetNs (s:Sys) (p:Aut) (L z:Nat) (w:kJ) (e:Ending) (w':kJ):Prop:=∃ (F:Sfx) (S:Nat->Prop),e=kP (.pointer (gO ⟨F.G,0,gP⟩))/\ziP F/\F.s=s/\F.p=p/\F.L=L/\F.lo=z/\F.b0=w.heap.size/\zhD F 0 w' S/\Ext w w'
theorem yT15b1 {P:Prop}(h:P:=by
 go_simp;refine hK.out _ _ ?_;refine pT ?_;refine uQ ?_;refine zg ?_;go_wp2_with fail
 go_meet;obtain⟨F,f1,f2,f3⟩:=zku;exact⟨F,f1,f2,f3⟩
 ):P:=h
theorem yT15a2 {P:Prop}(h:P:=by
 replace htb:=zh htb hy13;refine uQ ?_;refine zb fun K hK=>?_;have zku:=ns_fin (A:=A) (n:=n) (c:=c) (d:=d) (d':=d') Hs.out Hp.out hL64 HP0.out h0 hhi Htab.out hw1 hxw13 hmvw hbhd hmv ⟨bt,hbtw,htb⟩ hhd hmp0 hmbge;exact yT15b1
 ):P:=h
theorem yT15a3 {P:Prop}(h:P:=by
 exact yT15b1
 ):P:=h
theorem ziC (h0:Ext w0 w)(hS:zR w lo hi A n s)(hP:zF w lo hi B m B' m' p)(hs:zk s=kC)(hp:zj p=kC)(hL64:L<64)(hhi:hi<=w0.heap.size)(hT:Tab w0) :
  kQ kN 106 #[kO #[s.al,s.st,fQ A n c,p.al,fQ B m d,fQ B' m' d',L]] w (RetNs s p L w0.heap.size w):=by
 have Hs:=za hs;have Hp:=za hp;have HP0:=za hP;have Htab:=za hT;have C:=zbx hs;have J:=za (show Few 16 s.edges from fun e he=>by have:=C.2.2.1 e he;have:=C.2.1;omega);obtain⟨ak,am⟩:=zI hs;have aL:s.al.toNat<64:=oM;have D:Sm (diff s.al.toNat L):=by
  have:=diff_le s.al.toNat L;unfold Sm;omega
 have aD:bits .andNot kA s.al (L:Int)=((diff s.al.toNat L:Nat):Int):=by
  have h1:=bits_andNot (a:=s.al.toNat) (b:=L) tM tM;rwa [show ((s.al.toNat:Nat):Int)=s.al by omega] at h1
 have hw1:Ext w (w.alloc (.cells #[s.al,s.st,fQ A n c,p.al,fQ B m d,fQ B' m' d',L] 70)):=(dB _).alloc _;have b1:=eO w 70 #[s.al,s.st,fQ A n c,p.al,fQ B m d,fQ B' m' d',L];have HS:=za (fun X (hX:Ext (w.alloc (.cells #[s.al,s.st,fQ A n c,p.al,fQ B m d,fQ B' m' d',L] 70)) X)=>hS.ext (hw1.trans hX));have HP:=za (fun X (hX:Ext (w.alloc (.cells #[s.al,s.st,fQ A n c,p.al,fQ B m d,fQ B' m' d',L] 70)) X)=>hP.ext (hw1.trans hX));have aO:=(zl hp).2.1;clear hs hp hS hP hT C ak am;have aN:=@run_makeMap kN
 go_enter Tryz.func106,Tryz.ntmps106
 go_upto_region 1 with fail
 generalize w.alloc _=w1 at *;have aE:=hw1.size
 go_cut [3] (fun v3 wx=>∃ F:Sfx,v3=.pointer (gO ⟨F.G,0,gP⟩)/\F.lo=w0.heap.size/\NsI F s p L w wx)
 case first =>
  have CX:∀ X,Ext w1 X->∀ q,X.cell? ⟨w.heap.size,q,gP⟩=#[Value.int kA s.al,.int kA s.st,fQ A n c,.int kA p.al,fQ B m d,fQ B' m' d',.int kA L][q]?:=fun X hX=>(b1.ext hX).cell;have av:=dB w1;refine uR (fun X=>Ext w1 X) [16] (zx.app [0,1,2,4,5,7,8,9,10,11,12] (zx.two 3 (zx.two 6 (zx.two 13 (zx.of [14,15,16,17]) 14 (zx.of [13,15,16,17])) 14 (zx.of [6,13,15,16,17])) 14 (zx.of [3,6,13,15,16,17]))) ?_;refine uQ ?_;have v:=av.drew;generalize w1.drew=R at *;refine zm (fun K hK=>?_) (fun K hK=>?_)
  ·go_simp;refine (zdn (HS.out _ v) J.out).mono ?_;rintro e I ⟨mv,rfl,O,hmv,E⟩;have hmvw:w.heap.size<=mv:=oH v.size;have o:=v.trans E;refine hK.out _ _ o ?_;refine pT ?_;refine zm (fun K hK=>?_) (fun K hK=>?_)
   ·go_simp;refine (zcm (HP.out _ o) Hp.out).mono ?_;rintro e z ⟨RA,rc,rfl,⟨bt,aa,htb⟩,t⟩;have hbtw:w.heap.size<=bt:=oH o.size;have g:=o.trans t;refine hK.out _ _ g ?_;refine pT ?_;replace hmv:=hmv.ext t;refine zm (fun K hK=>?_) (fun K hK=>?_)
    ·go_simp;refine (zah (diff s.al.toNat L) D _).mono ?_;rintro e u ⟨HA,hc,rfl,hhd,hy13⟩;have hbhd:w.heap.size<=z.heap.size:=oH g.size;have hxw13:=g.trans hy13;refine hK.out _ _ hxw13 ?_;refine pT ?_;replace hmv:=hmv.ext hy13;replace htb:=zh htb hy13;refine ze fun K hK=>?_;go_simp;have hmp0:zdI 222 litP domP (u.alloc (.map #[] 0)) u.heap.size 0 (fun _=>gP):=zdI.made u;have h:Ext u (u.alloc (.map #[] 0)):=(dB _).alloc _;obtain⟨x,r⟩:∃ x,Hid (x=u.heap.size):=⟨_,rfl⟩;have hmbge:w.heap.size<=x:=by have:=hxw13.size;have:=r.out;omega
     have f:=hxw13.trans h;rw [<- r.out] at hmp0 ⊢;refine hK.out _ _ f ?_;generalize u.alloc (.map #[] 0)=H at *;refine pT ?_;replace hmv:=hmv.ext h;replace htb:=zh htb h;replace hhd:=zh hhd h;refine uQ ?_;refine zb fun K hK=>?_;have zku:=ns_fin (A:=A) (n:=n) (c:=c) (d:=d) (d':=d') Hs.out Hp.out hL64 HP0.out h0 hhi Htab.out hw1 f hmvw hbhd hmv ⟨bt,hbtw,htb⟩ hhd hmp0 hmbge;exact yT15a3
    ·go_simp;have hmp0:zdI 222 litP domP (z.alloc (.map #[] 0)) z.heap.size 0 (fun _=>gP):=zdI.made z;have h:Ext z (z.alloc (.map #[] 0)):=(dB _).alloc _;obtain⟨x,r⟩:∃ x,Hid (x=z.heap.size):=⟨_,rfl⟩;have hmbge:w.heap.size<=x:=by have:=g.size;have:=r.out;omega
     have f:=g.trans h;rw [<- r.out] at hmp0 ⊢;refine hK.out _ _ f ?_;generalize z.alloc (.map #[] 0)=H at *;refine pT ?_;replace hmv:=hmv.ext h;replace htb:=zh htb h;refine ze fun K hK=>?_;go_simp;refine (zah (diff s.al.toNat L) D _).mono ?_;rintro e u ⟨HA,hc,rfl,hhd,hy13⟩;have hbhd:w.heap.size<=H.heap.size:=oH f.size;have hxw13:=f.trans hy13;refine hK.out _ _ hxw13 ?_;refine pT ?_;replace hmv:=hmv.ext hy13;replace htb:=zh htb hy13;replace hmp0:=hmp0.ext hy13;refine uQ ?_;refine zb fun K hK=>?_;have zku:=ns_fin (A:=A) (n:=n) (c:=c) (d:=d) (d':=d') Hs.out Hp.out hL64 HP0.out h0 hhi Htab.out hw1 hxw13 hmvw hbhd hmv ⟨bt,hbtw,htb⟩ hhd hmp0 hmbge;exact yT15a3
   ·go_simp;have hmp0:zdI 222 litP domP (I.alloc (.map #[] 0)) I.heap.size 0 (fun _=>gP):=zdI.made I;have h:Ext I (I.alloc (.map #[] 0)):=(dB _).alloc _;obtain⟨x,r⟩:∃ x,Hid (x=I.heap.size):=⟨_,rfl⟩;have hmbge:w.heap.size<=x:=by have:=o.size;have:=r.out;omega
    have f:=o.trans h;rw [<- r.out] at hmp0 ⊢;refine hK.out _ _ f ?_;generalize I.alloc (.map #[] 0)=H at *;refine pT ?_;replace hmv:=hmv.ext h;refine ze fun K hK=>?_;go_simp;refine (zcm (HP.out _ f) Hp.out).mono ?_;rintro e z ⟨RA,rc,rfl,⟨bt,aa,htb⟩,t⟩;have hbtw:w.heap.size<=bt:=oH f.size;have g:=f.trans t;refine hK.out _ _ g ?_;refine pT ?_;replace hmv:=hmv.ext t;replace hmp0:=hmp0.ext t;refine ze fun K hK=>?_;go_simp;refine (zah (diff s.al.toNat L) D _).mono ?_;rintro e u ⟨HA,hc,rfl,hhd,hy13⟩;have hbhd:w.heap.size<=z.heap.size:=oH g.size;have hxw13:=g.trans hy13;refine hK.out _ _ hxw13 ?_;refine pT ?_;replace hmv:=hmv.ext hy13;replace hmp0:=hmp0.ext hy13;exact yT15a2
  ·go_simp;have hmp0:zdI 222 litP domP (R.alloc (.map #[] 0)) R.heap.size 0 (fun _=>gP):=zdI.made R;have h:Ext R (R.alloc (.map #[] 0)):=(dB _).alloc _;obtain⟨x,r⟩:∃ x,Hid (x=R.heap.size):=⟨_,rfl⟩;have hmbge:w.heap.size<=x:=by have:=v.size;have:=r.out;omega
   have f:=v.trans h;rw [<- r.out] at hmp0 ⊢;refine hK.out _ _ f ?_;generalize R.alloc (.map #[] 0)=H at *;refine pT ?_;refine ze fun K hK=>?_;go_simp;refine (zdn (HS.out _ f) J.out).mono ?_;rintro e I ⟨mv,rfl,O,hmv,E⟩;have hmvw:w.heap.size<=mv:=oH f.size;have o:=f.trans E;refine hK.out _ _ o ?_;refine pT ?_;replace hmp0:=hmp0.ext E;refine ze fun K hK=>?_;go_simp;refine (zcm (HP.out _ o) Hp.out).mono ?_;rintro e z ⟨RA,rc,rfl,⟨bt,aa,htb⟩,t⟩;have hbtw:w.heap.size<=bt:=oH o.size;have g:=o.trans t;refine hK.out _ _ g ?_;refine pT ?_;replace hmp0:=hmp0.ext t;replace hmv:=hmv.ext t;refine ze fun K hK=>?_;go_simp;refine (zah (diff s.al.toNat L) D _).mono ?_;rintro e u ⟨HA,hc,rfl,hhd,hy13⟩;have hbhd:w.heap.size<=z.heap.size:=oH g.size;have hxw13:=g.trans hy13;refine hK.out _ _ hxw13 ?_;refine pT ?_;replace hmp0:=hmp0.ext hy13;replace hmv:=hmv.ext hy13;exact yT15a2
 case rest =>
  obtain⟨F,rfl,aq,hN⟩:=hcut;obtain⟨ad,rfl,rfl,rfl,an,Z,ab,ae,aw⟩:=hN;have V:zfh F [] (fun _ _ => -1) 0 (fun _=>gP) (fQ gP 0 0) (fQ gP 0 0) (fQ gP 0 0) wc:=by
   refine⟨by rw [ae];exact Frm.refl _ _,Z,World.ownsRow_nil _ _ _ _,World.ownsRow_nil _ _ _ _,World.ownsRow_nil _ _ _ _,ab,NumI.nil,dD _,fun T hT=>by simp at hT⟩
  have M:=za V;have y:=za ad;have S:=za (T00_ws (p:=F.p) oM);clear V ad Z ab ae;go_wp2_with (first
   |(go_at_call 197;refine (sf_close (T0:=T00) y.out M.out S.out).mono ?_;rintro e w2 ⟨U,rfl,hU,Q⟩)
   |(go_at_call 196;refine (sf_add (U:=U) y.out (M.out.ext y.out Q) ⟨hU.1,hU.2.1,fun i q hb=>cl_row Hp.out (fun q i hb=>S.out.row i q hb) ((hU.2.2 i q).1 hb)⟩ dM).mono ?_;rintro e I ⟨j,aH,aQ,k',M',az,ay,aA,rfl,ar,ap,aj,au⟩))
  go_ret;rcases ar with ⟨rfl,rfl⟩|⟨rfl,rfl⟩
  ·simp at ap
  have Y:zbB U 12 (PR F.s F.p F.L []):=by
   rw [PR_nil,<- zfN.eq];exact hU
  have hI:SfI F.s F.p F.L ([]++[U]) (fun k l=>if k=([]:List (List Nat)).length then -1 else (fun _ _=>(-1:Int)) k l):=
   ⟨fun T hT=>by
    obtain rfl:T=U:=by simpa using hT
    exact start_ws Y Hp.out oM,⟨U,rfl,Y⟩,fun k l _ _=>.inl (by dsimp only;split<;>rfl)⟩
  refine⟨F,_,rfl,y.out,rfl,rfl,rfl,aq,an,⟨_,_,k',M',az,ay,aA,hI,aj,sM,rfl⟩,(aw.trans Q).frm au.frm (fun q hq hs=>?_)⟩;have:=(M.out.ext y.out Q).low0 y.out hs;omega
end
section
variable {w W:kJ}{lo hi n c m d m' d' L:Nat}{A B B':Option Addr}{s:Sys}{p:Aut}
theorem ziz (hS:zR w lo hi A n s)(hP:zF w lo hi B m B' m' p)(hv:zk s=kC)(hp:zj p=kC)(hL:L<64) :
  kQ kN 105 #[kO #[s.al,s.st,fQ A n c,p.al,fQ B m d,fQ B' m' d',L]] w fun e w'=>e=kP (.bool kC)/\Ext w w':=by
 have i:=za (fun W (hW:Ext w W)=>zaG (c:=c) (hS.ext hW));have h:=za (fun W (hW:Ext w W)=>zS _ _ _ _ d _ _ d' _ _ (hP.ext hW));rw [hv] at i;rw [hp] at h;have f:=za (show (decide ((0:Int)<=L/\(L:Int)<=63))=kC by simp;omega);clear hS hP hv hp
 go_enter Tryz.func105,Tryz.ntmps105
 go_upto_region 1 with fail
 generalize U0:w.alloc _=l at *;obtain⟨hw1,j⟩:=gY U0;clear U0;have o:=j.cells;have k:=dB l;go_wp2_with (first
  |(go_at_call 65;refine (i.out _ hw1).mono (mQ fun w2 a=>?_))
  |(go_at_call 25;refine (h.out _ (hw1.trans a)).mono (mQ fun q g=>?_);have b:=a.trans g)
  |(go_at_call 82;refine (zaz _ _).mono ?_;rw [f.out];rintro e r ⟨rfl,rfl⟩))
 go_ret;exact⟨rfl,hw1.trans b⟩
theorem zfj (hS:zR w lo hi A n s)(hP:zF w lo hi B m B' m' p)(hv:zk s=kC)(hp:zj p=kC)(hL:L<64) :
  kQ kN 118 #[kO #[kR kK,(0:Int),(),(),s.al,s.st,fQ A n c,p.al,fQ B m d,fQ B' m' d',L]] w fun e w'=>e=kP (.int kA L)/\Ext w w':=by
 have b:=za (fun W (hW:Ext w W)=>ziz (c:=c) (d:=d) (d':=d') (hS.ext hW) (hP.ext hW) hv hp hL);clear hS hP hv hp
 go_enter Tryz.func118,Tryz.ntmps118
 go_upto_region 1 with fail
 generalize U0:w.alloc _=h at *;obtain⟨hw1,f⟩:=gY U0;clear U0;have i:=f.cells;have g:=dB h;go_wp2_with (go_at_call 105;refine (b.out _ hw1).mono (mQ fun w2 a=>?_))
 go_ret;exact⟨rfl,hw1.trans a⟩
theorem sf_orc {F:Sfx}(hF:ziP F):zfM F.lo F.L (zo F.s F.p F.L) (zhD F) 122 (.pointer (gO ⟨F.G,0,gP⟩)) where
 ok:=zhD.ok hF
 in_:=fun args W=>kM
 ask:=fun B W S x hJ hB hx hxs=>sf_safe hF hJ hB hx hxs
def RetOr (s:Sys) (p:Aut) (L z:Nat) (w:kJ) (e:Ending) (w':kJ):Prop:=
 ∃ (F:Sfx) (S:Nat->Prop),e=kP (.tuple #[orcV L 122 (.pointer (gO ⟨F.G,0,gP⟩)),kR kC])/\ziP F/\F.s=s/\F.p=p/\F.L=L/\F.lo=z/\w.heap.size<=F.b0/\zhD F 0 w' S/\Ext w w'
theorem zhD.low0 {F:Sfx}(hF:ziP F){B:Nat}(h:zhD F B W S){j:Nat}(hj:S j):F.b0<=j:=by
 obtain⟨b,f,k,M,i,g,l,c,a,d,rfl⟩:=h;exact a.low0 hF hj
theorem zfo (h0:Ext w0 w)(hS:zR w lo hi A n s)(hP:zF w lo hi B m B' m' p)(hv:zk s=kC)(hp:zj p=kC)(hL:L<64)(hhi:hi<=w0.heap.size)(hT:Tab w0) :
  kQ kN 49 #[kO #[kR kK,(0:Int),(),(),s.al,s.st,fQ A n c,p.al,fQ B m d,fQ B' m' d',L]] w (RetOr s p L w0.heap.size w):=by
 have T:=za (fun W (hW:Ext w W)=>zfj (c:=c) (d:=d) (d':=d') (hS.ext hW) (hP.ext hW) hv hp hL);have U:=za (fun W (hW:Ext w W)=>ziC (c:=c) (d:=d) (d':=d') (h0.trans hW) (hS.ext hW) (hP.ext hW) hv hp hL hhi hT);clear hS hP hv hp;have ab:¬ ((L:Int)<0):=oM
 go_enter Tryz.func49,Tryz.ntmps49
 go_upto_region 1 with fail
 generalize U0:(w.alloc _).alloc _=Q at *;obtain⟨hw1,V,Y⟩:=gX U0;have ad:w.heap.size+1<Q.heap.size:=by rw [<- U0];simp
 clear U0;have R:∀ X,Ext Q X->∀ q,X.cell? ⟨w.heap.size,q,gP⟩=#[kR kK,.int kA 0,fQ gP 0 0,fQ gP 0 0,.int kA s.al,.int kA s.st,fQ A n c,.int kA p.al,fQ B m d,fQ B' m' d',.int kA L][q]?:=fun X hX=>(V.ext hX).cell;have af:=dB Q;have aa:=h0.size;go_upto_region 99 with (go_at_call 118;refine (T.out _ hw1).mono (mQ fun w2 g=>?_))
 refine (U.out _ (hw1.trans g)).mono ?_;rintro e x ⟨F,S,rfl,f,o,l,k,b,I,y,O⟩;have h:=g.trans O;have a:=Y.ext h;have k2:=a.cell;have f2:=a.frozen;have H:=za f;have HJ:=za y;have E:=za o;have D:=za l;have z:=za k;have j:=za b;have C:=za (show w.heap.size<=F.b0 by have:=g.size;have:=hw1.size;omega);have r:¬ S (w.heap.size+1):=fun hs=>by
  have h1:=zhD.low0 f y hs;have h2:=g.size;omega
 have M:=(dG x (w.heap.size+1) 0 (.int kA (L:Int))).trans (dG _ (w.heap.size+1) 1 (.func (.func 122) #[kV (gO ⟨F.G,0,gP⟩)] #[]));have J:=za ((zhD.ok f).keep y M (fun q _ e=>by have e':q=w.heap.size+1:=e;rw [e',b];exact⟨oM,r⟩));have u:=za ((hw1.trans h).frm M (fun q hq e=>by have e':q=w.heap.size+1:=e;omega));have t:=(a.ab 0 (.int kA (L:Int))).ab 1 (.func (.func 122) #[kV (gO ⟨F.G,0,gP⟩)] #[]);have Z:∀ i,((x.setCell ⟨w.heap.size+1,0,gP⟩ (.int kA (L:Int))).setCell ⟨w.heap.size+1,1,gP⟩ (.func (.func 122) #[kV (gO ⟨F.G,0,gP⟩)] #[])).cell? ⟨w.heap.size+1,i,gP⟩=#[Value.int kA (L:Int),.func (.func 122) #[kV (gO ⟨F.G,0,gP⟩)] #[]][i]?:=fun i=>by
  have:=t.cell i;simpa using this
 have ae:(store ⟨w.heap.size+1,1,gP⟩ (.func (.func 122) #[kV (gO ⟨F.G,0,gP⟩)] #[])).run kN (x.setCell ⟨w.heap.size+1,0,gP⟩ (.int kA (L:Int)))=.ok () ((x.setCell ⟨w.heap.size+1,0,gP⟩ (.int kA (L:Int))).setCell ⟨w.heap.size+1,1,gP⟩ (.func (.func 122) #[kV (gO ⟨F.G,0,gP⟩)] #[])):=by
  rw [run_store _ _ _ _ _ rfl];have h1:=a.ab 0 (.int kA (L:Int));rw [h1.cell,h1.frozen];rfl
 clear f y o l k b I r M t a R;go_wp2_with fail
 clear k2 f2;generalize (x.setCell ⟨w.heap.size+1,0,gP⟩ (.int kA (L:Int))).setCell ⟨w.heap.size+1,1,gP⟩ (.func (.func 122) #[kV (gO ⟨F.G,0,gP⟩)] #[])=w9 at *;exact bodyPost_ret (v:=.tuple #[orcV L 122 (.pointer (gO ⟨F.G,0,gP⟩)),kR kC]) (by simp [results,Tryz.results49,go_sem,Z]) rfl ⟨F,S,rfl,H.out,E.out,D.out,z.out,j.out,C.out,J.out,u.out⟩
end
section
variable {w:kJ}{lo hi n c lo1 hi1 m d m' d' lo2 hi2 k c2:Nat}{A B B' C:Option Addr}{s t:Sys}{p:Aut}
theorem impl_TaskOf (hs:zR w lo hi A n s)(hp:zF w lo1 hi1 B m B' m' p)(ht:zR w lo2 hi2 C k t)(hif:iface s p t=(L:Int))(hn:n<=1000000) :
  kQ kN 39 #[kO #[s.al,s.st,fQ A n c],kO #[p.al,fQ B m d,fQ B' m' d'],kO #[t.al,t.st,fQ C k c2]] w (zjs w s p L):=by
 obtain⟨vs,vp,vt⟩:=zck (show 0<=iface s p t by omega);have hL:L<64:=by
  rw [zez vs vp vt] at hif;have h1:=zI vt;have h2:((s.al.toNat|||p.al.toNat)&&&t.al.toNat)<=t.al.toNat:=Nat.and_le_right;omega
 have M:=za (fun W (hW:Ext w W)=>zeq (c:=c) (d1:=d) (d1':=d') (c2:=c2) (hs.ext hW) (hp.ext hW) (ht.ext hW));rw [hif] at M;have HK:=za (fun W (hW:Ext w W)=>clone_edge (c:=c) (hs.2.ext hW) oM);have HC:=za (fun W (hW:Ext w W)=>zfZ (c:=d) (c':=d') (hp.ext hW) (zcP vp));have hV:=za (And.intro vs (And.intro vp hL));have aj:=za hs.1;clear hs hp ht hif vs vp vt;obtain⟨w0,U0⟩:∃ x,Hid ((((w.alloc (.cells #[s.al,s.st,fQ A n c] 38)).alloc (.cells #[p.al,fQ B m d,fQ B' m' d'] 27)).alloc (.cells #[t.al,t.st,fQ C k c2] 38)).alloc (.cells #[(0:Int),(0:Int),(),(0:Int),(),(),(0:Int)] 70)=x):=⟨_,za rfl⟩;have H:Ext w w0:=(((((dB _).alloc _).alloc _).alloc _).alloc _).trans (fV U0.out);obtain⟨b1,b2,b3⟩:=zaa (((dB _).alloc (.cells #[(0:Int),(0:Int),(),(0:Int),(),(),(0:Int)] 70)).trans (fV U0.out));have b4:=eM U0.out;simp only [World.size_alloc] at b4;have aH:¬ ((L:Int)<0):=oM
 go_enter Tryz.func39,Tryz.ntmps39
 go_upto_region 1 with fail
 rw [U0.out] at *;have k1:=b1.cell;have k2:=b2.cell;have k3:=b3.cell;go_upto_region 4 with (go_at_call 83;refine (M.out _ H).mono (mQ fun w1 i=>?_))
 have I:=H.trans i;have F:=b1.ext i;have k1:=F.cell;go_upto_region 99 with fail
 refine (HK.out _ I).mono ?_;rintro e w2 ⟨v',rfl,ho,y⟩;obtain⟨g,h,rfl⟩:=zi ho;have l:=F.ext y;have k1:=l.cell;have f1:=l.frozen;have Q:=b4.ext (i.trans y);have O:=b2.ext (i.trans y);go_upto_region 5 with fail
 have G:=dG w2 w.heap.size 2 (fQ g n h);have o:Ext w (w2.setCell ⟨w.heap.size,2,gP⟩ (fQ g n h)):=(I.trans y).frm G (fun q hq e=>by have e':q=w.heap.size:=e;omega);have ae:Blk (w2.setCell ⟨w.heap.size,2,gP⟩ (fQ g n h)) w.heap.size 38 #[.int kA s.al,.int kA s.st,fQ g n h]:=by simpa using l.ab 2 (fQ g n h)
 have R:=Q.far (p:=⟨w.heap.size,2,gP⟩) (by show w.heap.size+1+1+1≠w.heap.size;omega) (fQ g n h);have af:=O.far (p:=⟨w.heap.size,2,gP⟩) (by show w.heap.size+1≠w.heap.size;omega) (fQ g n h);have az:=I.size;have ay:=H.size;have av:=b4.lt;have ax:=i.size;have V:=zf ho G (fun b hb e=>zN ho l dM hb e);clear k1 f1 k2 k3 F l Q O G ho;generalize w2.setCell ⟨w.heap.size,2,gP⟩ (fQ g n h)=J at *;have C1:∀ X,Ext J X->∀ q,X.cell? ⟨w.heap.size,q,gP⟩=#[Value.int kA s.al,.int kA s.st,fQ g n h][q]?:=fun X hX=>(ae.ext hX).cell;have C2:∀ X,Ext J X->∀ q,X.cell? ⟨w.heap.size+1,q,gP⟩=#[Value.int kA p.al,fQ B m d,fQ B' m' d'][q]?:=fun X hX=>(af.ext hX).cell;have aa:=dB J;refine uR (fun X=>Ext J X) [5] (zx.of [0,1,3,2,4,5,6]) ?_;refine uQ ?_;refine ze fun K hK=>?_;go_simp;refine (HC.out _ (o.trans aa.drew)).mono ?_;rintro e r ⟨u,z,d1,a,f,d1',rfl,U,ak⟩;have j:=aa.drew.trans ak;refine hK.out _ _ j ?_;refine pT ?_;refine uQ ?_;have S:=R.ext j;have kz:=S.cell;have fz:=S.frozen;have Z:=zh V j;have aw:=S.lt;have au:=j.size;have aF:=o.size;have E:zR r (w.heap.size+1+1+1+1) r.heap.size g n s:=⟨aj.out,(eQ Z).more oM (dD _)⟩;have ai:=R.lt;have aI:J.drew.heap.size=J.heap.size:=rfl;have D:zF r (w.heap.size+1+1+1+1) r.heap.size u z a f p:=(U.reads).more oM (dD _);have T:Frm (fun k=>k=w.heap.size+1+1+1) r (((((((r.setCell ⟨w.heap.size+1+1+1,0,gP⟩ s.al).setCell ⟨w.heap.size+1+1+1,1,gP⟩ s.st).setCell ⟨w.heap.size+1+1+1,2,gP⟩ (fQ g n h)).setCell ⟨w.heap.size+1+1+1,3,gP⟩ p.al).setCell ⟨w.heap.size+1+1+1,4,gP⟩ (fQ u z d1)).setCell ⟨w.heap.size+1+1+1,5,gP⟩ (fQ a f d1')).setCell ⟨w.heap.size+1+1+1,6,gP⟩ L):=
  ((((((dG r _ 0 _).trans (dG _ _ 1 _)).trans (dG _ _ 2 _)).trans (dG _ _ 3 _)).trans (dG _ _ 4 _)).trans (dG _ _ 5 _)).trans (dG _ _ 6 _)
 have bW:Blk (((((((r.setCell ⟨w.heap.size+1+1+1,0,gP⟩ s.al).setCell ⟨w.heap.size+1+1+1,1,gP⟩ s.st).setCell ⟨w.heap.size+1+1+1,2,gP⟩ (fQ g n h)).setCell ⟨w.heap.size+1+1+1,3,gP⟩ p.al).setCell ⟨w.heap.size+1+1+1,4,gP⟩ (fQ u z d1)).setCell ⟨w.heap.size+1+1+1,5,gP⟩ (fQ a f d1')).setCell ⟨w.heap.size+1+1+1,6,gP⟩ L) (w.heap.size+1+1+1) 70 #[.int kA s.al,.int kA s.st,fQ g n h,.int kA p.al,fQ u z d1,fQ a f d1',.int kA L]:=by
  simpa using ((((((S.ab 0 (.int kA s.al)).ab 1 (.int kA s.st)).ab 2 (fQ g n h)).ab 3 (.int kA p.al)).ab 4 (fQ u z d1)).ab 5 (fQ a f d1')).ab 6 (.int kA L)
 refine zb fun K hK=>?_;go_simp;generalize (((((((r.setCell ⟨w.heap.size+1+1+1,0,gP⟩ s.al).setCell ⟨w.heap.size+1+1+1,1,gP⟩ s.st).setCell ⟨w.heap.size+1+1+1,2,gP⟩ (fQ g n h)).setCell ⟨w.heap.size+1+1+1,3,gP⟩ p.al).setCell ⟨w.heap.size+1+1+1,4,gP⟩ (fQ u z d1)).setCell ⟨w.heap.size+1+1+1,5,gP⟩ (fQ a f d1')).setCell ⟨w.heap.size+1+1+1,6,gP⟩ L)=X at *;have Y:=za (show zjs w s p L (kP (.tuple #[kO #[s.al,s.st,fQ g n h,p.al,fQ u z d1,fQ a f d1',L],kR kC])) X from
  ⟨g,n,h,u,z,d1,a,f,d1',rfl,⟨⟨w.heap.size+1+1+1+1,r.heap.size,E.frm T (fun k h1 h2 e=>oM),D.frm T (fun k h1 h2 e=>oM),T.size⟩,hV.out.1,hV.out.2.1,hV.out.2.2⟩,(o.trans j).frm T (fun k hk e=>oM)⟩)
 have cf:=bW.cell;clear T bW E D kz fz S Z U V;refine hK.out _ _ ?_;clear hK;refine pT ?_;refine uQ ?_;refine zg ?_;go_wp2_with fail
 exact bodyPost_ret (v:=.tuple #[kO #[s.al,s.st,fQ g n h,p.al,fQ u z d1,fQ a f d1',L],kR kC]) (by simp [results,Tryz.results39,go_sem,cf]) rfl Y.out
end
theorem vc_frm (W:kJ) (Z:Nat) (u0 u1 u2 u3 u4 u5 u6 u7 u8:kL):Frm (fun k=>k=Z) W (((((((((W.setCell Z (u0)).setCell ⟨Z,1,gP⟩ (u1)).setCell ⟨Z,2,gP⟩ (u2)).setCell ⟨Z,3,gP⟩ (u3)).setCell ⟨Z,4,gP⟩ (u4)).setCell ⟨Z,5,gP⟩ (u5)).setCell ⟨Z,6,gP⟩ (u6)).setCell ⟨Z,7,gP⟩ (u7)).setCell ⟨Z,8,gP⟩ (u8)):=
 ((((((((dG W _ 0 _).trans (dG _ _ 1 _)).trans (dG _ _ 2 _)).trans (dG _ _ 3 _)).trans (dG _ _ 4 _)).trans (dG _ _ 5 _)).trans (dG _ _ 6 _)).trans (dG _ _ 7 _)).trans (dG _ _ 8 _)
theorem zim {t:TypeId}(h:Blk W Z t vs)(h9:vs.size=9) (u0 u1 u2 u3 u4 u5 u6 u7 u8:kL):Blk (((((((((W.setCell Z (u0)).setCell ⟨Z,1,gP⟩ (u1)).setCell ⟨Z,2,gP⟩ (u2)).setCell ⟨Z,3,gP⟩ (u3)).setCell ⟨Z,4,gP⟩ (u4)).setCell ⟨Z,5,gP⟩ (u5)).setCell ⟨Z,6,gP⟩ (u6)).setCell ⟨Z,7,gP⟩ (u7)).setCell ⟨Z,8,gP⟩ (u8)) Z t #[u0,u1,u2,u3,u4,u5,u6,u7,u8]:=by
 obtain⟨a⟩:=vs
 match a,h9 with
 |[a0,a1,a2,a3,a4,a5,a6,a7,a8],_ =>
  simpa using ((((((((h.ab 0 u0).ab 1 u1).ab 2 u2).ab 3 u3).ab 4 u4).ab 5 u5).ab 6 u6).ab 7 u7).ab 8 u8
def zhB (w:kJ) (v:Vc) (e:Ending) (w':kJ):Prop:=
 ∃ (A:Option Addr) (n c:Nat) (A':Option Addr) (n' c':Nat) (C:Option Addr) (k d:Nat) (C':Option Addr) (k' d':Nat),
  e=kP (kO #[v.code,v.fst.al,fQ A n c,fQ A' n' c',v.snd.al,fQ C k d,fQ C' k' d',v.tr,v.ro])/\zM w' w.heap.size A n c A' n' c' v.fst/\zM w' w.heap.size C k d C' k' d' v.snd/\Ext w w'
theorem zhB.cast {v u:Vc}{e:Ending}(hu:u=v)(h:zhB w v e W):zhB w u e W:=hu ▸ h
theorem zbU (W:kJ) (base:Nat):zM W base gP 0 0 gP 0 0 noA:=⟨⟨[],World.ownsRow_nil _ _ _ _,zC.nil _ _⟩,rfl,World.ownsRow_nil _ _ _ _,rfl⟩
theorem zin {n' c' k d k' d':Nat}{A' C C':Option Addr}{v:Vc}(hx:Ext w W)(hv:Blk W Z 33 vs) (_h9:vs.size=9)(hZ:w.heap.size<=Z)(ho:zM W w.heap.size A n c A' n' c' v.fst)(ho2:zM W w.heap.size C k d C' k' d' v.snd) :
  zhB w v (kP (kO #[v.code,v.fst.al,fQ A n c,fQ A' n' c',v.snd.al,fQ C k d,fQ C' k' d',v.tr,v.ro]))
   (((((((((W.setCell Z v.code).setCell ⟨Z,1,gP⟩ v.fst.al).setCell ⟨Z,2,gP⟩ (fQ A n c)).setCell ⟨Z,3,gP⟩ (fQ A' n' c')).setCell ⟨Z,4,gP⟩ v.snd.al).setCell ⟨Z,5,gP⟩ (fQ C k d)).setCell ⟨Z,6,gP⟩ (fQ C' k' d')).setCell ⟨Z,7,gP⟩ v.tr).setCell ⟨Z,8,gP⟩ v.ro):=by
 have a:=vc_frm W Z (.int kA v.code) (.int kA v.fst.al) (fQ A n c) (fQ A' n' c') (.int kA v.snd.al) (fQ C k d) (fQ C' k' d') (.string v.tr) (.int kA v.ro);exact⟨A,n,c,A',n',c',C,k,d,C',k',d',rfl,ho.aq hv a dM,ho2.aq hv a dM,hx.frm a (fun k hk e=>oM)⟩
section
variable {w:kJ}{lo hi c lo1 hi1 m d m' d' n:Nat}{A B B':Option Addr}{ss:List Sys}{p:Aut}
theorem zkc {r:Int}(h:zeo w lo hi A n ss)(hp:zF w lo1 hi1 B m B' m' p) :
  kQ kN 63 #[fQ A n c,kO #[p.al,fQ B m d,fQ B' m' d'],r] w fun e w'=>e=kP (kO #[(1:Int),(0:Int),(),(),(0:Int),(),(),kU (zY ss p),r])/\Ext w w':=by
 have l:=za (fun W (hW:Ext w W)=>zbX (c:=c) (d2:=d) (d2':=d') (h.ext hW) (hp.ext hW));clear h hp;generalize zY ss p=i at *;generalize zbi ss p=x at *
 go_enter Tryz.func63,Tryz.ntmps63
 go_upto_region 1 with fail
 generalize U0:(w.alloc _).alloc _=C at *;obtain⟨f,o,q⟩:=gX U0;clear U0;have y:=o.cell;go_upto_region 2 with (first
  |(go_at_call 150;refine (l.out _ f).mono (mQ fun u g=>?_)))
 have a:=q.ext g;have z:=a.cell;have f2:=a.frozen;have j:=vc_frm u (w.heap.size+1) (.int kA 1) (.int kA 0) (fQ gP 0 0) (fQ gP 0 0) (.int kA 0) (fQ gP 0 0) (fQ gP 0 0) (.string i) (.int kA r);have t:=za (zim a rfl (.int kA 1) (.int kA 0) (fQ gP 0 0) (fQ gP 0 0) (.int kA 0) (fQ gP 0 0) (fQ gP 0 0) (.string i) (.int kA r));have b:=za ((f.trans g).frm j (fun k hk e=>oM));clear j a;go_wp2_with fail
 have s:=t.out.cell;exact bodyPost_ret (v:=kO #[(1:Int),(0:Int),(),(),(0:Int),(),(),i,r]) (by simp [results,Tryz.results63,go_sem,s]) rfl ⟨rfl,b.out⟩
theorem zgI (h:zeo w lo hi A n ss)(hp:zF w lo1 hi1 B m B' m' p)(h3:three ss p=kK) :
  kQ kN 18 #[fQ A n c,kO #[p.al,fQ B m d,fQ B' m' d']] w (zhB w ⟨3,noA,noA,⟨#[]⟩,0⟩):=by
 have j:=za (show zaw ss p = -1 by unfold zaw;rw [h3];rfl);have b:=za (fun W (hW:Ext w W)=>zdX (c:=c) (d:=d) (d':=d') (h.ext hW) (hp.ext hW));rw [j.out] at b;clear h hp h3;generalize zcM ss p=u at *
 go_enter Tryz.func18,Tryz.ntmps18
 go_upto_region 1 with fail
 generalize U0:(w.alloc _).alloc _=x at *;obtain⟨g,l,o⟩:=gX U0;clear U0;have s:=l.cell;go_upto_region 3 with (first
  |(go_at_call 56;refine (b.out _ g).mono (mQ fun k i=>?_)))
 have a:=o.ext i;have t:=a.cell;have f2:=a.frozen;have r:=za (zim a rfl (.int kA 3) (.int kA 0) (fQ gP 0 0) (fQ gP 0 0) (.int kA 0) (fQ gP 0 0) (fQ gP 0 0) (.string ⟨#[]⟩) (.int kA 0));have f:=za (zin (v:=⟨3,noA,noA,⟨#[]⟩,0⟩) (g.trans i) a rfl oM (zbU k _) (zbU k _));clear a;go_wp2_with fail
 have q:=r.out.cell;exact bodyPost_ret (v:=kO #[(3:Int),(0:Int),(),(),(0:Int),(),(),kU ⟨#[]⟩,(0:Int)]) (by simp [results,Tryz.results18,go_sem,q]) rfl f.out
theorem yT15a1 {P:Prop}(h:P:=by
 generalize zaD L (zo x p L) rs cs rw_=oL at *;generalize U0:wF.alloc _=wG at *;have hxG:=Ext.al_ U0;have b19:=Ext.bl_ U0;clear U0;have b9G:=b9E.ext (hxF.trans hxG);have hxG2:=hxE.trans (hxF.trans hxG);have k19:=b19.cell;have k9G:=b9G.cell;have f9G:=b9G.frozen;have hfH:Frm (fun b=>b=G) wG ((wG.setCell G (.slice R2 nr2 cr2)).setCell ⟨G,1,none⟩ (.slice C2 nc2 cc2)):=(Frm.setCell wG _ 0 _).trans (Frm.setCell _ _ 1 _);have hTMH:TabM w2 ((wG.setCell G (.slice R2 nr2 cr2)).setCell ⟨G,1,none⟩ (.slice C2 nc2 cc2)) G oL:=
  ⟨nr2,nc2,R2,cr2,C2,cc2,by simpa using (b9G.ab 0 (.slice R2 nr2 cr2)).ab 1 (.slice C2 nc2 cc2),hcr2,hcc2,fun rs' cs' e=>by
   have h1:=zh (hT2 rs' cs' e).1 hxG;have h2:=zh (hT2 rs' cs' e).2 hxG;exact⟨zf h1 hfH (fun b hv e'=>zq h1 b9G dM hv e'),zf h2 hfH (fun b hv e'=>zq h2 b9G dM hv e')⟩⟩
 have hxH:=hxG2.frm hfH (fun k hk e=>oM);clear cTc k9 b9E oRE oCE b9G hfH b19 hT2 hxF hxG hxG2 HTatE;go_upto_region 25 with fail
 generalize (wG.setCell G (.slice R2 nr2 cr2)).setCell ⟨G,1,none⟩ (.slice C2 nc2 cc2)=wH at *;clear k19 k9G f9G;go_wp2_with fail
 go_roundw
 case rel=>exact⟨oL,j+1,rfl,by push_cast;rfl,oM,za (fun rs' cs' e=>by have:=hmore.out rs' cs' e;have:=hjl.out;omega),hokL,hrunL,hTMH,hxH⟩
 case measure=>simp [intOf];omega
 ):P:=h
theorem zgJ {b o:Nat}(h:zeo w lo hi (gO ⟨b,o,gP⟩) 3 [x,y,z])(hp:zF w lo1 hi1 B m B' m' p)(h3:three [x,y,z] p=kC)(hc:zaw [x,y,z] p=(L:Int))(hL:L<64)(hhi:hi<=w.heap.size)(hhi1:hi1<=w.heap.size) :
  kQ kN 18 #[fQ (gO ⟨b,o,gP⟩) 3 c,kO #[p.al,fQ B m d,fQ B' m' d']] w (zhB w (chT x y z p L 12 0 ((zac L (zo x p L) [⟨#[]⟩] 11 [⟨#[]⟩]).map fun r=>(r,[⟨#[]⟩])))):=by
 obtain⟨-,bu,vp⟩:=zgr.1 h3;obtain⟨-,hv⟩:=zap bu;have vx:=hv x sM;have vy:=hv y sM;have vz:=hv z sM;obtain⟨A1,n1,c1,f0,f1,f2,be⟩:=h.sys2 (k:=0) (s:=x) rfl;have CL:∀ W,Ext w W->W.cell? ⟨b,o,gP⟩=gO (.int kA x.al)/\W.cell? ⟨b,o+1,gP⟩=gO (.int kA x.st)/\W.cell? ⟨b,o+2,gP⟩=gO (fQ A1 n1 c1):=fun W hW =>
  ⟨hW.aa (by simpa using f0),hW.aa (by simpa using f1),hW.aa (by simpa using f2)⟩
 have a6:Tch w A1 n1 B m B' m' x p L:=⟨⟨min lo lo1,max hi hi1,be.more (Nat.min_le_left _ _) (Nat.le_max_left _ _),hp.more (Nat.min_le_right _ _) (Nat.le_max_right _ _),Nat.max_le.2 ⟨hhi,hhi1⟩⟩,vx,vp,hL⟩;have bl:=za (fun W (hW:Ext w W)=>zdX (c:=c) (d:=d) (d':=d') (h.ext hW) (hp.ext hW));rw [hc] at bl;have bY:=za (fun W (hW:Ext w W) (r:Int)=>zkc (c:=c) (d:=d) (d':=d') (r:=r) (h.ext hW) (hp.ext hW));have b4:=za (fun W (hW:Ext w W) (a:Aut) (X:Option Addr) (k1 d1:Nat) (X':Option Addr) (k1' d1' l1 l2:Nat) (ha:zF W l1 l2 X k1 X' k1' a)=>zde (c:=c1) (d1:=d1) (d1':=d1') (d2:=d) (d2':=d') (be.ext hW) ha (hp.ext hW));have HJ:=za (fun W (hW:Ext w W) (a:Aut) (X:Option Addr) (k1 d1:Nat) (X':Option Addr) (k1' d1' l1 l2:Nat) (ha:zF W l1 l2 X k1 X' k1' a) (va:zj a=kC)=>zkd (c:=c) (A1:=A1) (n1:=n1) (c1:=c1) (p:=p) (B:=B) (m:=m) (d:=d) (B':=B') (m':=m') (d':=d') (d1:=d1) (d1':=d1') (h.ext hW) ha vy vz va (Nat.le_trans hhi hW.size) hL);have Hv:=za (And.intro vx (And.intro vy (And.intro vz vp)));obtain⟨I,zku⟩:∃ I,Hid (chT x y z p L 12 0 ((zac L (zo x p L) [⟨#[]⟩] 11 [⟨#[]⟩]).map fun r=>(r,[⟨#[]⟩]))=I):=⟨_,rfl⟩;have az:=za (zew.new L (zo x p L));rw [zku.out];obtain⟨ab,aR⟩:∃ ab,Hid ((zac L (zo x p L) [⟨#[]⟩] 11 [⟨#[]⟩]).map (fun r=>(r,[(⟨#[]⟩:ByteArray)]))=ab):=⟨_,rfl⟩;rw [aR.out] at zku az;have a5:=za (fun rs cs (e:ab=gO (rs,cs))=>show 0<rs.length from by have:=((az.out rs cs e).1).r1;omega);clear h hp h3 hc bu vp hv vx vy vz f0 f1 f2 be;generalize zcM [x,y,z] p=q2 at *;have bs:¬ (L:Int)<0:=oM
 go_enter Tryz.func18,Tryz.ntmps18
 go_upto_region 1 with fail
 generalize U0:(w.alloc _).alloc _=w0 at *;obtain⟨u,b1,b2⟩:=gX U0;clear U0;have cX:=b2.lt;have cW:w.heap.size<=w.heap.size+1:=oM;have aW:=b1.cells;have bB:=dB w0;go_upto_region 4 with (first
  |(go_at_call 56;refine (bl.out _ u).mono (mQ fun w1 a8=>?_)))
 generalize w.heap.size+1=Z at *;have bR:=fun W (hW:Ext w1 W)=>CL W (u.trans (a8.trans hW));have bU:=fun W (hW:Ext w1 W)=>aW W (a8.trans hW);clear bB bs
 go_cut [7] (fun v wx=>∃ G:Nat,v=.pointer (gO G)/\Blk wx G 70 #[x.al,x.st,fQ A1 n1 c1,p.al,fQ B m d,fQ B' m' d',L]/\Ext w1 wx)
 case first =>
  have ch:=dB w1;have bE:Ext w1 w1.drew:=ch.drew;refine uR (fun X=>Ext w1 X) [7] (zx.of [0,1,2,3,4,5,6,7]) ?_;refine uQ ?_;generalize w1.drew=wd at *;refine ze fun K hK=>?_;go_simp;have bD:=(dB wd).alloc (.cells #[(0:Int),(0:Int),(),(0:Int),(),(),(0:Int)] 70);have a9:=bE.trans bD;have c2:=bE.size;refine hK.out _ _ a9 ?_;generalize U0:wd.alloc _=we at *;have bG:=eM U0;clear U0;generalize wd.heap.size=G at *;refine pT ?_;have cG:=bG.cell;have fG:=bG.frozen;refine zb fun K hK=>?_;go_simp;refine hK.out _ _ ?_;refine zg ?_;have hf:Frm (fun k=>k=G) we (((((((we.setCell G x.al).setCell ⟨G,1,gP⟩ x.st).setCell ⟨G,2,gP⟩ (fQ A1 n1 c1)).setCell ⟨G,3,gP⟩ p.al).setCell ⟨G,4,gP⟩ (fQ B m d)).setCell ⟨G,5,gP⟩ (fQ B' m' d')).setCell ⟨G,6,gP⟩ L):=
   ((((((dG we _ 0 _).trans (dG _ _ 1 _)).trans (dG _ _ 2 _)).trans (dG _ _ 3 _)).trans (dG _ _ 4 _)).trans (dG _ _ 5 _)).trans (dG _ _ 6 _)
  have bW:Blk (((((((we.setCell G x.al).setCell ⟨G,1,gP⟩ x.st).setCell ⟨G,2,gP⟩ (fQ A1 n1 c1)).setCell ⟨G,3,gP⟩ p.al).setCell ⟨G,4,gP⟩ (fQ B m d)).setCell ⟨G,5,gP⟩ (fQ B' m' d')).setCell ⟨G,6,gP⟩ L) G 70 #[.int kA x.al,.int kA x.st,fQ A1 n1 c1,.int kA p.al,fQ B m d,fQ B' m' d',.int kA L]:=by
   simpa using ((((((bG.ab 0 (.int kA x.al)).ab 1 (.int kA x.st)).ab 2 (fQ A1 n1 c1)).ab 3 (.int kA p.al)).ab 4 (fQ B m d)).ab 5 (fQ B' m' d')).ab 6 (.int kA L)
  have Hf:=za (And.intro bW (a9.frm hf (fun k hk e=>oM)));clear hf bW a9 bD cG fG bG;go_wp2_with fail
  go_meet;exact⟨G,rfl,Hf.out⟩
 case rest =>
  obtain⟨GK,rfl,bK,aS⟩:=hcut;have cK:=bK.cell;go_upto_region 6 with fail
  obtain⟨GT,b8⟩:∃ GT,Hid (wc.heap.size=GT):=⟨_,rfl⟩;generalize U0:wc.alloc _=w2 at *;have bd:=iP U0;have bT:=eM U0;clear U0;rw [b8.out] at bT ⊢;have g:=a8.trans (aS.trans bd);replace bK:=bK.ext bd;clear cK;have cY:=bK.lt;have cZ:=bT.lt;have n:=a6.ext (u.trans g);have aX:=bT.cells;have bV:=bK.cells;have bS:=fun W (hW:Ext w2 W)=>CL W (u.trans (g.trans hW));have bi:=fun W (hW:Ext w2 W)=>aW W (g.trans hW);have bo:=za (fun W (hW:Ext w2 W)=>zgm (c:=c1) (d:=d) (d':=d') (n.ext hW));rw [aR.out] at bo;have b3:=za (fun (R:Option Addr) (nr cr:Nat) (C:Option Addr) (nc cc:Nat) (rows cols:List ByteArray) W (hW:Ext w2 W) hT hI S Q af=>zbY (c:=c1) (d:=d) (d':=d') (nr:=nr) (nc:=nc) (R:=R) (C:=C) (cr:=cr) (cc:=cc) (rows:=rows) (cols:=cols) (n.ext hW) hT hI S Q af);have bn:=za (fun (R:Option Addr) (nr cr:Nat) (C:Option Addr) (nc cc:Nat) (rows cols:List ByteArray) (x':ByteArray) W (hW:Ext w2 W) hT hI S Q af hx=>zfs (c:=c1) (d:=d) (d':=d') (nr:=nr) (nc:=nc) (R:=R) (C:=C) (cr:=cr) (cc:=cc) (rows:=rows) (cols:=cols) (x:=x') (n.ext hW) hT hI S Q af hx);have b0:=za (fun W (hW:Ext w2 W) (y':ByteArray) hy=>by
   obtain⟨lo,hi,h1,h2,h3⟩:=n.at_;exact zei (c:=c1) (d:=d) (d':=d') (L:=L) (t:=y') (h1.ext hW) (h2.ext hW) n.sv n.pv n.lt (Nat.le_trans h3 hW.size) hy)
  have bC:=dB w2;clear CL bR bU aW aS bd bK bT;go_upto_region 7 with (first
   |(go_at_call 57;refine (bo.out _ bC).mono ?_;intro e w3 hret;obtain⟨ba,nr,nc,R,cr,C,cc,rfl,S,Q,a3⟩:=hret.fill (w0:=w2) (dD _);clear hret))
  obtain⟨G,hG⟩:∃ G,Hid (w3.heap.size=G):=⟨_,rfl⟩;have cV:w2.heap.size<=G:=by rw [<- hG.out];exact ba.size
  generalize U0:w3.alloc _=w6 at *;have ao:=iP U0;have b9:=eM U0;clear U0;rw [hG.out] at b9 ⊢;have aT:=ba.trans ao;have ax:TabM w2 w6 G ab:=⟨nr,nc,R,cr,C,cc,b9,S,Q,fun rs cs e=>⟨zh (a3 rs cs e).1 ao,zh (a3 rs cs e).2 ao⟩⟩;clear a3 b9 ba ao;go_wp2_with fail
  go_loopw [10,11] (fun fv rv wr=>∃ (q:Option (List ByteArray × List ByteArray)) (j:Nat),fv=.bool q.isSome/\rv=.int kA j/\j<=12/\Hid (∀ rs cs,q=gO (rs,cs)->j<rs.length)/\Hid (zew L (zo x p L) q)/\Hid (chT x y z p L (12 - j) j q=I)/\TabM w2 wr G q/\Ext w2 wr) (fun _ rv _=>12 - (intOf rv).toNat)
  case atStart=>exact⟨ab,0,rfl,rfl,oM,a5,az,zku,ax,aT⟩
  case round =>
   clear ax aT;obtain⟨q,j,rfl,rfl,cD,aD,a4,am,ax,aa⟩:=hrel;cases q with
   |none =>
    have ah:=za (show I=⟨2,noA,noA,⟨#[]⟩,j⟩ by rw [<- am.out];cases 12 - j<;>rfl)
    have F:(gP:Option (List ByteArray × List ByteArray)).isSome=kK:=rfl;rw [F];clear ax a4 aD am F;have O:=b2.ext (g.trans aa);have kZ:=O.cell;have fZ:=O.frozen;have F2:=za (zim O rfl (.int kA 2) (.int kA 0) (fQ gP 0 0) (fQ gP 0 0) (.int kA 0) (fQ gP 0 0) (fQ gP 0 0) (.string ⟨#[]⟩) (.int kA j));have F1:=za (zhB.cast ah.out (zin (v:=⟨2,noA,noA,⟨#[]⟩,j⟩) (u.trans (g.trans aa)) O rfl oM (zbU wr _) (zbU wr _)));clear O;go_wp2_with fail
    have ad:=F2.out.cell;simp only [noA] at F1;exact bodyPost_ret (v:=kO #[(2:Int),(0:Int),(),(),(0:Int),(),(),kU ⟨#[]⟩,j]) (by simp [results,Tryz.results18,go_sem,ad]) rfl F1.out
   |some tab =>
    obtain⟨rs,cs⟩:=tab;obtain⟨hI,af⟩:=a4.out rs cs rfl;have hj:j<12:=by have:=aD.out rs cs rfl;have:=hI.r12;omega
    have hjl:=za (aD.out rs cs rfl);have F:(gO (rs,cs)).isSome=kC:=rfl;rw [F];obtain⟨nr,nc,R,cr,C,cc,b9,S,Q,br⟩:=ax;obtain⟨oR,oC⟩:=br rs cs rfl;have aN:=za (show TabAt wr R nr C nc rs cs from ⟨_,_,_,_,eQ oR,eQ oC⟩);have k9:=b9.cell;have cTc:=aX wr aa;have ae:=za hI;have T:=za af;have aF:=za (zbe hI af n.lt);clear hI af br F a4 aD;go_upto_region 11 with (first
     |(go_at_call 58;refine (b3.out _ _ _ _ _ _ rs cs _ aa aN.out ae.out S Q T.out).mono ?_;rintro e wB ⟨Y,q1,e1,Y',aK,aC,rfl,ai,aG⟩))
    obtain⟨f,aQ⟩:∃ f,Hid (zcX L (zo x p L) rs cs=f):=⟨_,rfl⟩;rw [aQ.out] at ai aF ⊢;have c0:=za (aa.trans aG).size;have cd:=za aa.size;have cE:=za aG.size;obtain⟨GA,b7⟩:∃ GA,Hid (wB.heap.size=GA):=⟨_,rfl⟩;generalize U0:wB.alloc _=wC at *;have bb:=iP U0;have aZ:=eM U0;have H:=ai.ext bb;clear U0;rw [b7.out] at aZ ⊢;have U:=aG.trans bb;have aB:=b9.ext U;have aJ:=zh oR U;have aI:=zh oC U;have D:=aa.trans U;have a7:=zdg Hv.out.1 aF.out Hv.out.2.2.2;have aE:=za a7.1;have ce:=za a7.2;have i:=za (show (if (zaQ x y z p L f).2.1=0 then (⟨0,f,(zaQ x y z p L f).2.2,⟨#[]⟩,j+1⟩:Vc) else if (zaQ x y z p L f).2.1=2 then ⟨2,noA,noA,⟨#[]⟩,j+1⟩ else if (zaQ x y z p L f).2.1=1 then ⟨1,noA,noA,zY [x,y,z] p,j+1⟩ else chT x y z p L (12 - (j+1)) (j+1) (zaD L (zo x p L) rs cs (zaQ x y z p L f).1))=I by
     rw [<- am.out,show 12 - j=(12 - (j+1))+1 by omega];show _=chT x y z p L ((12 - (j+1))+1) j (gO (rs,cs));rw [chT,aQ.out])
    have Hj:=za (show zaQ x y z p L f=if zby x f p=kC then (zay (zaI x f p) L,-1,noA)
     else if (vpT y z f).code=0 then (⟨#[]⟩,0,(vpT y z f).asm)
     else if (vpT y z f).code=2 then (⟨#[]⟩,2,noA)
     else (zay (vpT y z f).tr L,if zo x p L (zay (vpT y z f).tr L)=kC then -1 else 1,noA) from rfl)
    have E:=za (b4.out wC.drew (u.trans (g.trans D.drew)) f Y q1 e1 Y' aK aC _ _ (H.ext ((dB wC).drew)).reads);obtain⟨uw,bA⟩:∃ uw,Hid (zaI x f p=uw):=⟨_,rfl⟩;rw [bA.out] at aE ce E Hj;have cb:=za (zbr (zaV (zcn aE.out L)));generalize zaQ x y z p L f=J at *;have bj:=fun W (hW:Ext wC W)=>bi W (D.trans hW);have bh:=fun W (hW:Ext wC W)=>bS W (D.trans hW);have aV:=aZ.cells;have an:=dB wC;clear am b9 oR oC ai k9 cTc aN a7 bb aG U aa;cases hub:zby x f p
    ·rw [hub] at E Hj;clear hub;have ar:=za (show J=if (vpT y z f).code=0 then (⟨#[]⟩,0,(vpT y z f).asm) else if (vpT y z f).code=2 then (⟨#[]⟩,2,noA) else (zay (vpT y z f).tr L,if zo x p L (zay (vpT y z f).tr L)=kC then -1 else 1,noA) by rw [Hj.out];rfl);have cf:=za (zhy Hv.out.2.1 Hv.out.2.2.1 aF.out);refine uR (fun X=>Ext wC X) [5] (zx.of [0,1,2,3,4,5,6,7,8,9,10]) ?_;refine uQ ?_;refine zb fun K hK=>?_;go_simp;refine E.out.mono (mQ fun wD V=>?_);have M:=an.drew.trans V;clear V;refine hK.out _ _ ?_;refine pT ?_;refine uQ ?_;refine zg ?_;have aw:=za (zbg (s:=uw) (a:=L) (w:=wD) aE.out oM);have bm:=za (fun W (hW:Ext wC W)=>HJ.out W (u.trans (g.trans (D.trans hW))) f Y q1 e1 Y' aK aC _ _ (H.ext hW).reads aF.out);generalize vpT y z f=v at *;have bk:=fun W (hW:Ext wC W)=>bV W (D.trans hW);go_upto_region 15 with (first
      |(go_at_call 60;refine aw.out.mono (mQ fun c5 ap=>?_);replace M:=M.trans ap)
      |(go_at_call 61;refine (bm.out _ M).mono ?_;rintro e wJ ⟨Z1,z1,y1,Z2,z2,y2,rfl,bt,bc⟩))
     obtain⟨GV,ca⟩:∃ GV,Hid (wJ.heap.size=GV):=⟨_,rfl⟩;have c3:=(u.trans (g.trans (D.trans M))).size;generalize U0:wJ.alloc _=wE at *;have aH:=iP U0;have a0:=eM U0;have hxE:Ext w2 wE:=D.trans (M.trans (bc.trans aH));have l:Ext wC wE:=M.trans (bc.trans aH);have aj:=H.ext l;have ay:=bt.ext aH;have b9E:=aB.ext l;have oRE:=zh aJ l;have oCE:=zh aI l;clear U0;rw [ca.out] at a0 ⊢;have bF:=a0.cell;have aL:=aV wE l;clear an aV bj bh aH bt bc M aB aJ aI H E aw bm
     by_cases hv0:v.code=0
     ·have ah:=za (show I=⟨0,f,v.asm,⟨#[]⟩,j+1⟩ by rw [<- i.out,ar.out,if_pos hv0];rfl);have e0:(v.code==0)=kC:=by simpa using hv0
      clear i ar Hj b9E oRE oCE hv0;have O:=b2.ext (g.trans hxE);have kZ:=O.cell;have fZ:=O.frozen;have F2:=za (zim O rfl (.int kA 0) (.int kA f.al) (fQ Y q1 e1) (fQ Y' aK aC) (.int kA v.asm.al) (fQ Z1 z1 y1) (fQ Z2 z2 y2) (.string ⟨#[]⟩) (.int kA ((j:Int)+1)));have F1:=za (zhB.cast ah.out (zin (v:=⟨0,f,v.asm,⟨#[]⟩,j+1⟩) (u.trans (g.trans hxE)) O rfl oM (aj.less (by have:=u.size;have:=g.size;have:=cd.out;omega)) (ay.less oM)));clear O;go_wp2_with fail
      have ad:=F2.out.cell;simp only [gV,jR] at F1;exact bodyPost_ret (v:=kO #[(0:Int),f.al,fQ Y q1 e1,fQ Y' aK aC,v.asm.al,fQ Z1 z1 y1,fQ Z2 z2 y2,kU ⟨#[]⟩,((j:Int)+1:Int)]) (by simp [results,Tryz.results18,go_sem,ad]) rfl F1.out
     ·by_cases hv2:v.code=2
      ·have ah:=za (show I=⟨2,noA,noA,⟨#[]⟩,j+1⟩ by rw [<- i.out,ar.out,if_neg hv0,if_pos hv2];rfl);have e0:(v.code==0)=kK:=by simpa using hv0
       have e2:(v.code==2)=kC:=by simpa using hv2
       clear i ar Hj b9E oRE oCE hv0 hv2 aj ay;have O:=b2.ext (g.trans hxE);have kZ:=O.cell;have fZ:=O.frozen;have F2:=za (zim O rfl (.int kA 2) (.int kA 0) (fQ gP 0 0) (fQ gP 0 0) (.int kA 0) (fQ gP 0 0) (fQ gP 0 0) (.string ⟨#[]⟩) (.int kA ((j:Int)+1)));have F1:=za (zhB.cast ah.out (zin (v:=⟨2,noA,noA,⟨#[]⟩,j+1⟩) (u.trans (g.trans hxE)) O rfl oM (zbU wE _) (zbU wE _)));clear O;go_wp2_with fail
       have ad:=F2.out.cell;simp only [noA,gV,jR] at F1;exact bodyPost_ret (v:=kO #[(2:Int),(0:Int),(),(),(0:Int),(),(),kU ⟨#[]⟩,((j:Int)+1:Int)]) (by simp [results,Tryz.results18,go_sem,ad]) rfl F1.out
      ·have e0:(v.code==0)=kK:=by simpa using hv0
       have e2:(v.code==2)=kK:=by simpa using hv2
       have bx:=za (zbr (zaV (zcn cf.out L)));have bq:=bk wE l;obtain⟨sf,bz⟩:∃ sf,Hid (zo x p L (zay v.tr L)=sf):=⟨_,rfl⟩;have av:=za (b0.out wE hxE (zay v.tr L) (oH bx.out));rw [bz.out] at av;have a2:=za (show J=(zay v.tr L,if sf=kC then -1 else 1,noA) by rw [ar.out,if_neg hv0,if_neg hv2,bz.out]);generalize zay v.tr L=rw_ at *;clear ar Hj hv0 hv2 aj ay;cases sf
       ·have ah:=za (show I=⟨1,noA,noA,zY [x,y,z] p,j+1⟩ by rw [<- i.out,a2.out];rfl);clear i b9E oRE oCE;go_upto_region 21 with (first
         |(go_at_call 62;refine av.out.mono (mQ fun wF hxF=>?_)))
        have aq:=hxE.trans hxF;have cP:=bi wF aq;have bX:=za (bY.out wF (u.trans (g.trans aq)) ((j:Int)+1));clear bq bF aL av;generalize zY [x,y,z] p=bw at *;have ag:=za (fun W (hW:Ext wF W)=>show Blk W Z 33 #[(0:Int),(0:Int),(),(),(0:Int),(),(),kU ⟨#[]⟩,(0:Int)] from b2.ext (g.trans (aq.trans hW)));go_wp2_with (first
         |(go_at_call 63;refine bX.out.mono (mQ fun wG hxG=>?_);have kZ:=(ag.out wG hxG).cell;have fZ:=(ag.out wG hxG).frozen))
        have O:=ag.out wG hxG;have F2:=zim O rfl (.int kA 1) (.int kA 0) (fQ gP 0 0) (fQ gP 0 0) (.int kA 0) (fQ gP 0 0) (fQ gP 0 0) (.string bw) (.int kA ((j:Int)+1));have F1:=zhB.cast ah.out (zin (v:=⟨1,noA,noA,bw,j+1⟩) (u.trans (g.trans (aq.trans hxG))) O rfl oM (zbU wG _) (zbU wG _));have ad:=F2.cell;simp only [noA,gV,jR] at F1;exact bodyPost_ret (v:=kO #[(1:Int),(0:Int),(),(),(0:Int),(),(),bw,((j:Int)+1:Int)]) (by simp [results,Tryz.results18,go_sem,ad]) rfl F1
       ·have hrunL:=za (show chT x y z p L (12 - (j+1)) (j+1) (zaD L (zo x p L) rs cs rw_)=I by
         have:=i.out;rw [a2.out] at this;exact this)
        clear i a2;go_upto_region 22 with (first
         |(go_at_call 62;refine av.out.mono (mQ fun wF hxF=>?_)))
        replace hxE:=hxE.trans hxF;replace b9E:=b9E.ext hxF;replace oRE:=zh oRE hxF;replace oCE:=zh oCE hxF;clear bq bF aL av l a0;obtain⟨wE,cg⟩:∃ wE,wE=wF:=⟨_,rfl⟩;subst cg;have hokL:=za (zew.ao ae.out rw_);have hmore:=za (fun rs' cs' (e:zaD L (zo x p L) rs cs rw_=gO (rs',cs'))=>(zfB ae.out T.out e).1);have cTc:=aX wE hxE;have k9:=b9E.cell;have HTatE:=za (show TabAt wE R nr C nc rs cs from ⟨_,_,_,_,eQ oRE,eQ oCE⟩);go_upto_region 24 with (first
         |(go_at_call 64;refine (bn.out _ _ _ _ _ _ rs cs rw_ _ hxE HTatE.out ae.out S Q T.out (oH bx.out)).mono ?_;intro e wF hret;obtain⟨hxF,nr2,nc2,R2,cr2,C2,cc2,rfl,hcr2,hcc2,hT2⟩:=hret.fill (w0:=w2) hxE.size;clear hret))
        exact yT15a1
    ·rw [hub] at E Hj;clear hub;have hrunL:=za (show chT x y z p L (12 - (j+1)) (j+1) (zaD L (zo x p L) rs cs (zay uw L))=I by
      have:=i.out;rw [Hj.out] at this;exact this)
     clear i;refine uR (fun X=>Ext wC X) [5] (zx.of [0,1,2,3,4,5,6,7,8,9,10]) ?_;refine uQ ?_;refine zb fun K hK=>?_;go_simp;refine E.out.mono (mQ fun wD V=>?_);have M:=an.drew.trans V;clear V;refine hK.out _ _ ?_;refine pT ?_;refine uQ ?_;refine zg ?_;have aw:=za (zbg (s:=uw) (a:=L) (w:=wD) aE.out oM);generalize zay uw L=rw_ at *;go_upto_region 23 with (first
      |(go_at_call 60;refine aw.out.mono (mQ fun wE ap=>?_)))
     have l:=M.trans ap;have hxE:=D.trans l;have b9E:=aB.ext l;have oRE:=zh aJ l;have oCE:=zh aI l;clear an aV bj bh M ap aB aJ aI H E aw aZ l;have hokL:=za (zew.ao ae.out rw_);have hmore:=za (fun rs' cs' (e:zaD L (zo x p L) rs cs rw_=gO (rs',cs'))=>(zfB ae.out T.out e).1);have cTc:=aX wE hxE;have k9:=b9E.cell;have HTatE:=za (show TabAt wE R nr C nc rs cs from ⟨_,_,_,_,eQ oRE,eQ oCE⟩);go_upto_region 24 with (first
      |(go_at_call 64;refine (bn.out _ _ _ _ _ _ rs cs rw_ _ hxE HTatE.out ae.out S Q T.out (oH cb.out)).mono ?_;intro e wF hret;obtain⟨hxF,nr2,nc2,R2,cr2,C2,cc2,rfl,hcr2,hcc2,hT2⟩:=hret.fill (w0:=w2) hxE.size;clear hret))
     exact yT15a1
end
section
variable {w:kJ}{lo1 hi1 lo2 hi2 k c2 k1 d1 k1' d1':Nat}{C X X':Option Addr}{t:Sys}{a:Aut}
theorem zfA (ht:zR w lo2 hi2 C k t)(ha:zF w lo1 hi1 X k1 X' k1' a)(hT:Tab w) :
  kQ kN 161 #[kO #[t.al,t.st,fQ C k c2],kO #[a.al,fQ X k1 d1,fQ X' k1' d1']] w fun e w'=>e=kP (.tuple #[kU (zY [t] a),kR (zbi [t] a)])/\Ext w w':=by
 have n:=za (fun W (hW:Ext w W)=>ht.ext hW);have j:=za (fun W (hW:Ext w W)=>ha.ext hW);have l:=za (fun W (hW:Ext w W)=>hT.ext hW);clear ht ha hT
 go_enter Tryz.func161,Tryz.ntmps161
 go_upto_region 1 with fail
 generalize U0:(w.alloc _).alloc _=i at *;obtain⟨d,o,p⟩:=gX U0;clear U0;have u:=o.cell;have b:=(dB i).alloc (.cells #[t.al,t.st,fQ C k c2] 38);have h:=eO i 38 #[t.al,t.st,fQ C k c2];obtain⟨s,r,f⟩:=sl_one h (n.out _ (d.trans b));have q:=(p.ext b).cell;have m:=za (zbT (c:=1) (d2:=d1) (d2':=d1') f (j.out _ (d.trans b)) (l.out _ (d.trans b)));clear f h;go_wp2_with fail
 refine m.out.mono (mQ fun w2 g=>?_);go_wp2_with fail
 go_ret2;exact⟨rfl,(d.trans b).trans g⟩
end
section
variable {w:kJ}{lo hi n c lo1 hi1 m d m' d' lo2 hi2 k c2:Nat}{A B B' C:Option Addr}{s t:Sys}{p:Aut}
theorem zhJ {P:Program}(w:kJ) (d:Nat) (t:TypeId){ps rs:Array TypeId}(h:P.underlying t=gO (.func ps rs v)):(Op.equalIn (d+1) t .nilFunc .nilFunc).run P w=.ok kC w:=by
 simp [Op.equalIn,run_underlying h]
@[go_sem] theorem neq_nilFunc {P:Program}(w:kJ) (t:TypeId){ps rs:Array TypeId}(h:P.underlying t=gO (.func ps rs v)):(binOp .neq t .nilFunc .nilFunc).run P w=.ok (.bool kK) w:=by
 simp only [binOp];simp [show (Op.equal t .nilFunc .nilFunc).run P w=.ok kC w from zhJ w 9999 t h]
@[go_sem] theorem neq_nilFuncP (w:kJ):(binOp .neq 197 .nilFunc .nilFunc).run kN w=.ok (.bool kK) w:=neq_nilFunc w _ rfl
theorem zjm (kn:Nat) (rc:kL) (X:kJ) (g:Nat)(h1:(X.cell? ⟨g,1,gP⟩).isSome=kC)(h2:X.frozen? ⟨g,1,gP⟩=kK):(store ⟨g,1,gP⟩ (.func (.func kn) #[rc] #[])).run kN X=.ok () (X.setCell ⟨g,1,gP⟩ (.func (.func kn) #[rc] #[])):=by
 rw [run_store _ _ _ _ _ rfl];obtain⟨u,a⟩:=Option.isSome_iff_exists.1 h1;rw [a,h2];rfl
theorem vd_fin {a0 a1 a2 a3 a4 a5:kL}(hx:Ext w W)(hb:Blk W Z 42 #[a0,a1,a2,a3,a4,a5])(hZ:w.heap.size<=Z) (u0 u1 u2 u3 u4 u5:kL) :
  Blk ((((((W.setCell Z u0).setCell ⟨Z,1,gP⟩ u1).setCell ⟨Z,2,gP⟩ u2).setCell ⟨Z,3,gP⟩ u3).setCell ⟨Z,4,gP⟩ u4).setCell ⟨Z,5,gP⟩ u5) Z 42 #[u0,u1,u2,u3,u4,u5] /\
  Frm (fun k=>k=Z) W ((((((W.setCell Z u0).setCell ⟨Z,1,gP⟩ u1).setCell ⟨Z,2,gP⟩ u2).setCell ⟨Z,3,gP⟩ u3).setCell ⟨Z,4,gP⟩ u4).setCell ⟨Z,5,gP⟩ u5) /\
  Ext w ((((((W.setCell Z u0).setCell ⟨Z,1,gP⟩ u1).setCell ⟨Z,2,gP⟩ u2).setCell ⟨Z,3,gP⟩ u3).setCell ⟨Z,4,gP⟩ u4).setCell ⟨Z,5,gP⟩ u5):=by
 have a:=zdD W Z u0 u1 u2 u3 u4 u5;exact⟨by simpa using (((((hb.ab 0 u0).ab 1 u1).ab 2 u2).ab 3 u3).ab 4 u4).ab 5 u5,a,hx.frm a (fun q hq e=>by have e':q=Z:=e;omega)⟩
def TabV3 (W:kJ) (S:Nat->Prop) (base g:Nat) (o:Option (List ByteArray × List ByteArray)):Prop:=
 ¬ S g/\((o=gP/\∃ u v,Blk W g 90 #[u,v])\/∃ (rs cs:List ByteArray) (R C:Option Addr) (cr cc:Nat),o=gO (rs,cs)/\Blk W g 90 #[fQ R rs.length cr,fQ C cs.length cc]/\zhi W S base R rs.length cr C cs.length cc rs cs)
theorem zfa {base' g cr2 cc2:Nat}{R2 C2:Option Addr}{u v:kL}{rs2 cs2:List ByteArray}(hb:Blk W g 90 #[u,v])(hg:¬ S g)(ht:zhi W S base' R2 rs2.length cr2 C2 cs2.length cc2 rs2 cs2)(h1:base<=base')(h2:g<base') :
  TabV3 ((W.setCell g (fQ R2 rs2.length cr2)).setCell ⟨g,1,gP⟩ (fQ C2 cs2.length cc2)) S base g (gO (rs2,cs2)):=by
 have h:=(ht.r.frm (dG W g 0 (fQ R2 rs2.length cr2)) (fun b hb e=>by have:=(ht.r.own.lt b hb).1;have e':b=g:=e;omega));have f:=(ht.c.frm (dG W g 0 (fQ R2 rs2.length cr2)) (fun b hb e=>by have:=(ht.c.own.lt b hb).1;have e':b=g:=e;omega));have d:=(h.frm (dG _ g 1 (fQ C2 cs2.length cc2)) (fun b hb e=>by have:=(h.own.lt b hb).1;have e':b=g:=e;omega));have a:=(f.frm (dG _ g 1 (fQ C2 cs2.length cc2)) (fun b hb e=>by have:=(f.own.lt b hb).1;have e':b=g:=e;omega));exact⟨hg,.inr ⟨rs2,cs2,R2,C2,cr2,cc2,rfl,by simpa using (hb.ab 0 (fQ R2 rs2.length cr2)).ab 1 (fQ C2 cs2.length cc2),⟨⟨zn d.own h1,d.far⟩,⟨zn a.own h1,a.far⟩⟩⟩⟩
theorem zhM (hs:zR w lo hi A n s)(hp:zF w lo1 hi1 B m B' m' p)(ht:zR w lo2 hi2 C k t)(hif:iface s p t=(L:Int))(hn:n<=1000000)(hT:Tab w) :
  kQ kN 72 #[kO #[s.al,s.st,fQ A n c],kO #[t.al,t.st,fQ C k c2],kO #[p.al,fQ B m d,fQ B' m' d'],.nilFunc] w (zjt w (vpT s t p)):=by
 obtain⟨vs,vp,vt⟩:=zck (show 0<=iface s p t by omega);have cg:=za (fun W (hW:Ext w W)=>impl_TaskOf (c:=c) (d:=d) (d':=d') (c2:=c2) (hs.ext hW) (hp.ext hW) (ht.ext hW) hif hn);have HS:=za (fun W (hW:Ext w W)=>hs.ext hW);have HP:=za (fun W (hW:Ext w W)=>hp.ext hW);have ch:=za (fun W (hW:Ext w W)=>ht.ext hW);have ce:=za (fun W (hW:Ext w W)=>show kQ kN 30 #[fQ (gO W.heap.size) 2 2,kO #[p.al,fQ B m d,fQ B' m' d']] (W.alloc (.cells #[s.al,s.st,fQ A n c,t.al,t.st,fQ C k c2] 38)) (fun e w'=>e=kP (.tuple #[kU (zY [s,t] p),kR (zbi [s,t] p)])/\Ext W w') from by
  have f6:=(dB W).alloc (.cells #[s.al,s.st,fQ A n c,t.al,t.st,fQ C k c2] 38);obtain⟨l1,l2,cB⟩:=sl_pair (eO W 38 #[s.al,s.st,fQ A n c,t.al,t.st,fQ C k c2]) (hs.ext (hW.trans f6)) (ht.ext (hW.trans f6));exact (zbT cB (hp.ext (hW.trans f6)) (hT.ext (hW.trans f6))).mono (fun e w' h=>⟨h.1,f6.trans h.2⟩))
 have cD:=za (zir hif);have Htab:=za hT;clear hs hp ht hT
 go_enter Tryz.func72,Tryz.ntmps72
 go_upto_region 1 with fail
 obtain⟨w1,U0⟩:∃ x,Hid ((((w.alloc (.cells #[s.al,s.st,fQ A n c] 38)).alloc (.cells #[t.al,t.st,fQ C k c2] 38)).alloc (.cells #[p.al,fQ B m d,fQ B' m' d'] 27)).alloc (.cells #[(0:Int),(0:Int),(),(),kU ⟨#[]⟩,(0:Int)] 42)=x):=⟨_,za rfl⟩;obtain⟨b4,b5,b6⟩:=zaa (((dB _).alloc (.cells #[(0:Int),(0:Int),(),(),kU ⟨#[]⟩,(0:Int)] 42)).trans (fV U0.out));have b8:=eM U0.out;simp only [World.size_alloc] at b8;have aN:Ext w w1:=(((((dB _).alloc _).alloc _).alloc _).alloc _).trans (fV U0.out);rw [U0.out] at *;have k4:=b4.cell;have k5:=b5.cell;have k6:=b6.cell;go_upto_region 4 with (go_at_call 39;refine (cg.out _ aN).mono ?_;rintro e w2 ⟨A1,n1,c1,B1,m1,d1,bm,bU,d1',rfl,cw,aW⟩)
 have aR:=cw.ext ((dB w2).alloc (.cells #[s.al,s.st,fQ A1 n1 c1,p.al,fQ B1 m1 d1,fQ bm bU d1',L] 70));have M:=aW.trans ((dB w2).alloc (.cells #[s.al,s.st,fQ A1 n1 c1,p.al,fQ B1 m1 d1,fQ bm bU d1',L] 70));generalize U0:w2.alloc _=w3 at *;have b9:=eM U0;clear U0;have k9:=b9.cell;obtain⟨du,dr,cA,cz,cx⟩:=aR.at_;have hL:=aR.lt;have bQ:=za (zfo (c:=c1) (d:=d1) (d':=d1') (dB w3) cA cz vs vp hL cx (Htab.out.ext (aN.trans M)));have bR:=zjm (122);go_upto_region 5 with (go_at_call 49;refine bQ.out.mono ?_;rintro e w4 ⟨F,S0,rfl,cy,cu,ct,cq,bB,dp,hJ,aX⟩)
 have S:=za (show zfM w3.heap.size L (zo s p L) (zhD F) 122 (.pointer (gO ⟨F.G,0,gP⟩)) by
  have:=sf_orc cy;rwa [cu,ct,cq,bB] at this)
 have ag:=za (fun (q:Nat) (hq:w4.heap.size<=q)=>zbs.fresh S.out.ok hJ hq);generalize U0:w4.alloc _=w5 at *;obtain⟨ay,a1⟩:=gY U0;have bK:=S.out.ok.keep hJ ay (fun _ _ h=>h.elim);have O:=aX.trans ay;clear U0;have ae:=a1.cell;have bO:=za (zhV S.out bK oM O.size hL);have c8:=aX.size;go_upto_region 99 with fail
 refine bO.out.mono ?_;rintro e w6 ⟨S6,aJ,U⟩;rcases U with ⟨bN,rfl⟩|⟨bi,a2,R0,C0,bx,bu,bP,rfl,bE⟩
 ·obtain⟨r,hr⟩:=zhT L (zo s p L);rw [hr] at bN;cases bN
 obtain⟨w7,U0⟩:∃ x,Hid (w6.alloc (.cells #[fQ R0 bi.length bx,fQ C0 a2.length bu] 90)=x):=⟨_,za rfl⟩;have i:=eM U0.out;have aY:Ext w6 w7:=((dB _).alloc _).trans (fV U0.out);obtain⟨a5,l⟩:∃ g,Hid (g=w6.heap.size):=⟨_,za rfl⟩;have bD:=za (fun (q:Nat) (hq:w6.heap.size<=q)=>zbs.fresh S.out.ok aJ.j hq);go_upto_region 6 with fail
 rw [<- l.out] at i ⊢;rw [U0.out] at *;have u:=za (show ∀ q:Nat,S0 q->w3.heap.size<=q from fun q h=>by have:=S.out.ok.low bK q h;omega);have bL:=za ((aJ.ext S.out.ok aY).more S.out.ok (show 0+21840<=21840+30000*0 by omega));obtain⟨o0,aL⟩:∃ o0:Option (List ByteArray × List ByteArray),Hid ((zac L (zo s p L) [⟨#[]⟩] 11 [⟨#[]⟩]).map (fun r=>(r,[(⟨#[]⟩:ByteArray)]))=o0):=⟨_,za rfl⟩;have aw:o0=gO (bi,a2):=aL.out.symm.trans bP;have aS:=za (show zjq L (zo s p L) 0 o0 by rw [<- aL.out];exact zjq.start L (zo s p L));have aT:=za (show runT s t p L (12 - 0) 0 o0=vpT s t p by rw [cD.out,<- aL.out]);have aU:o0.isSome=kC:=by rw [aw];rfl
 have aV:=za (show TabV3 w7 S6 w5.heap.size a5 o0 from ⟨bD.out a5 (oH l.out),.inr ⟨bi,a2,R0,C0,bx,bu,aw,i,bE.ext aY⟩⟩);have c6:=aW.size;have c7:=M.size;have c9:=ay.size;have da:=aJ.size;have cX:=b4.lt;have cY:=b8.lt;have cZ:=b9.lt;have B4:=za ((b4.ext M).ext O);have B5:=za ((b5.ext M).ext O);have B6:=za ((b6.ext M).ext O);have B8:=za ((b8.ext M).ext O);have B9:=za (b9.ext O);have aF:=za a1;have dq:w.heap.size<=w5.heap.size:=(aN.trans (M.trans O)).size;have aA:=za (aN.trans (M.trans O));clear k4 k5 k6 k9 ae b4 b5 b6 b8 b9 a1 bE i aJ bO bQ bR bP;go_wp2_with fail
 go_loopw [10,14,15,16,17,18,19,20] (fun v10 v14 _ _ _ _ _ _ wr=>∃ (r:Nat) (o:Option (List ByteArray × List ByteArray)) (S1:Nat->Prop),v10=.bool o.isSome/\v14=.int kA ((r:Int)+1)/\r<=12/\Hid (Kp (zhD F) (21840+30000*r) S0 w5 wr S1)/\Hid (TabV3 wr S1 w5.heap.size a5 o)/\Hid (zjq L (zo s p L) r o)/\Hid (runT s t p L (12 - r) r o=vpT s t p)) (fun _ v14 _ _ _ _ _ _ _=>14 - (intOf v14).toNat)
 case atStart=>exact⟨0,o0,S6,by rw [aU],rfl,Nat.zero_le _,bL,aV,aS,aT⟩
 case round =>
  clear bL aV aS aT aU aw aL;obtain⟨r,o,S1,rfl,rfl,hr,am,bS,aK,ba⟩:=hrel;have T:=am.out.blk B8.out (fun h=>by have:=u.out _ h;omega);cases o with
  |none =>
   have hv:=za (show vpT s t p=⟨2,noA,⟨#[]⟩,r⟩ by
    rw [<- ba.out];cases h12:12 - r with
    |zero=>rfl
    |succ f=>rfl)
   have k8:=T.1.cell;have f8:=T.1.frozen;go_wp2_with fail
   have cE:Ext w wr:=aA.out.frm am.out.frm (fun q hq hs=>by have:=u.out q hs;omega);have zku:=vd_fin cE T.1 oM (.int kA 2) (.int kA 0) (fQ gP 0 0) (fQ gP 0 0) (.string ⟨#[]⟩) (.int kA r);have cf:=zku.1.cell;have Hx:=za zku.2.2;clear zku k8 f8 T;generalize ((((((wr.setCell ⟨w.heap.size+1+1+1,0,gP⟩ (2:Int)).setCell ⟨w.heap.size+1+1+1,1,gP⟩ (0:Int)).setCell ⟨w.heap.size+1+1+1,2,gP⟩ ()).setCell ⟨w.heap.size+1+1+1,3,gP⟩ ()).setCell ⟨w.heap.size+1+1+1,4,gP⟩ (.string ⟨#[]⟩)).setCell ⟨w.heap.size+1+1+1,5,gP⟩ r)=X at *;exact bodyPost_ret (v:=kO #[(2:Int),(0:Int),(),(),kU ⟨#[]⟩,r]) (by simp [results,Tryz.results72,go_sem,cf]) rfl (by
    rw [hv.out];exact⟨gP,0,0,gP,0,0,rfl,zbU _ _,Hx.out⟩)
  |some tab =>
   obtain⟨rs,cs⟩:=tab;obtain⟨bI,cv⟩:=bS.out;rcases cv with ⟨h0,_⟩|⟨rs',cs',R,C1,cr,cc,h0,a7,bd⟩
   ·cases h0
   obtain⟨rfl,rfl⟩:=Prod.mk.inj (Option.some.inj h0);obtain⟨hI,aH⟩:=aK.out.tab rs cs rfl;have c0:w5.heap.size<=wr.heap.size:=am.out.size;have a6:=za (zeG S.out am.out.j oM bd hI aH oM hL);have be:=za (zbe hI aH hL);obtain⟨a,bF⟩:∃ a,Hid (zcX L (zo s p L) rs cs=a):=⟨_,za rfl⟩;rw [bF.out] at a6 be;have k8:=T.1.cell;have f8:=T.1.frozen;have ar:=am.out.blk aF.out (ag.out _ (dD _));have ae:=ar.1.cell;have aD:=a7.cell;have bo:=za bd;have a0:=za a7;clear bS bd a7 h0;go_upto_region 11 with (go_at_call 51;refine a6.out.mono ?_;rintro e w8 ⟨S2,AA,aE,an,ac,ap,ai,rfl,bA,ak⟩)
   have a8:=am.out.trans ak;have bJ:=za (ak.out a0.out.lt bI);have cW:=za (fun (q:Nat) (hq:w8.heap.size<=q)=>zbs.fresh S.out.ok a8.j hq);have c3:=ak.size;generalize U0:w8.alloc _=w9 at *;obtain⟨Q,au⟩:=gY U0;have ad:=za (a8.ext S.out.ok Q);have aq:=za (bA.ext Q);have aP:=za ((ak.blk a0.out bI).1.ext Q);have aQ:=za ((bo.out.kp ak).ext Q);clear U0;have Z:=za (show Ext w w9 from ad.out.toExt aA.out (fun q hs=>by have:=u.out q hs;omega));have ci:=za (zda (c:=c) (d1:=ac) (d1':=ai) (d2:=d) (d2':=d') (HS.out _ Z.out) aq.out.own_.reads (HP.out _ Z.out) (Htab.out.ext Z.out));have cb:=za (fun W (hW:Ext w9 W)=>zfA (c2:=c2) (k1:=an) (d1:=ac) (k1':=ap) (d1':=ai) (ch.out _ (Z.out.trans hW)) (aq.out.own_.reads.ext hW) (Htab.out.ext (Z.out.trans hW)));have k4:=(ad.out.blk B4.out (fun h=>by have:=u.out _ h;omega)).1.cell;have k6:=(ad.out.blk B6.out (fun h=>by have:=u.out _ h;omega)).1.cell;have dt:=au.cell;have bn:=za (ad.out.blk B9.out (fun h=>by have:=u.out _ h;omega)).1;clear a6 bA ak a8 bo a0 k8 f8 T ae aD ar;go_upto_region 14 with (go_at_call 52;refine ci.out.mono (mQ fun cI Y=>?_))
   have c5:r<12:=by have:=aK.out.more rs cs rfl;have:=hI.r12;omega
   have ah:=za (show (if (zbj s p t L a).2=0 then (⟨0,a,⟨#[]⟩,r+1⟩:Vd) else if (zbj s p t L a).2=1 then ⟨1,noA,zY [s,t] p,r+1⟩ else runT s t p L (11 - r) (r+1) (zaD L (zo s p L) rs cs (zbj s p t L a).1))=vpT s t p by
    rw [<- ba.out,show 12 - r=(11 - r)+1 by omega,runT,bF.out])
   clear ba;have bg:=za (zdg vs be.out vp);have bf:=za (zcW (ss:=[t]) (p:=a) (by unfold zA;simp [vt]) be.out);have bH:=ad.out.blk B8.out (fun h=>by have:=u.out _ h;omega);have cR:=za (Z.out.trans Y);cases hub:zby s a p with
   |false =>
    have k5:=((ad.out.blk B5.out (fun h=>by have:=u.out _ h;omega)).1.ext Y).cell;have bt:=(au.ext Y).cell;go_upto_region 17 with (go_at_call 161;refine (cb.out _ Y).mono (mQ fun bV bT=>?_))
    have I:=Y.trans bT;have dn:=(au.ext I).cell;cases hbb:zbi [t] a with
    |false =>
     have hv:=za (show vpT s t p=⟨0,a,⟨#[]⟩,r+1⟩ by
      rw [<- ah.out];have hj:zbj s p t L a=(⟨#[]⟩,0):=by unfold zbj;rw [if_neg (by simp [hub]),if_neg (by simp [hbb])]
      rw [hj,if_pos rfl])
     have E:=bH.1.ext I;have k8:=E.cell;have f8:=E.frozen;clear bt;go_wp2_with fail
     have zku:=vd_fin (Z.out.trans I) E oM (.int kA 0) (.int kA a.al) (fQ AA an ac) (fQ aE ap ai) (.string ⟨#[]⟩) (.int kA ((r:Int)+1));have cf:=zku.1.cell;have Hx:=za zku.2.2;have Ho:=za (((aq.out.own_.ext I).keep zku.2.1 (fun b hb e=>by have e':b=w.heap.size+1+1+1:=e;omega)).less (show w.heap.size<=wr.heap.size by omega));clear zku k8 f8 E;generalize ((((((bV.setCell ⟨w.heap.size+1+1+1,0,gP⟩ (0:Int)).setCell ⟨w.heap.size+1+1+1,1,gP⟩ a.al).setCell ⟨w.heap.size+1+1+1,2,gP⟩ (fQ AA an ac)).setCell ⟨w.heap.size+1+1+1,3,gP⟩ (fQ aE ap ai)).setCell ⟨w.heap.size+1+1+1,4,gP⟩ (.string ⟨#[]⟩)).setCell ⟨w.heap.size+1+1+1,5,gP⟩ (.int kA ((r:Int)+1)))=X at *;exact bodyPost_ret (v:=kO #[(0:Int),a.al,fQ AA an ac,fQ aE ap ai,kU ⟨#[]⟩,((r:Int)+1:Int)]) (by simp [results,Tryz.results72,go_sem,cf]) rfl (by
      rw [hv.out];exact⟨AA,an,ac,aE,ap,ai,sM,Ho.out,Hx.out⟩)
    |true =>
     have aj:=za (show zbj s p t L a=(zay (zY [t] a) L,if zo s p L (zay (zY [t] a) L)=kC then -1 else 1) by unfold zbj;rw [if_neg (by simp [hub]),if_pos hbb]);have aB:=zcn bf.out.1 L;have aC:(zay (zY [t] a) L).size<=4000:=by have:=zdU (zY [t] a) L;have:=bf.out.2;simp only [List.length_cons,List.length_nil] at this;omega
     have ax:=za (zcT (s:=zY [t] a) (a:=L) (w:=bV) bf.out.1 oM);have k9:=(bn.out.ext I).cell;obtain⟨z,hz⟩:∃ z,Hid (zay (zY [t] a) L=z):=⟨_,za rfl⟩;rw [hz.out] at aB aC aj ax;have aG:=za aB;clear bt;go_upto_region 20 with (go_at_call 53;refine ax.out.mono (mQ fun bW af=>?_))
     have y:=I.trans af;have V:=za (ad.out.ext S.out.ok y);have bG:=za (S.out.ask _ bW S2 z V.out.j oM aG.out oM);have ae:=(V.out.blk aF.out (ag.out _ (dD _))).1.cell;clear k9;go_upto_region 99 with fail
     refine bG.out.mono ?_;rintro e aO ⟨S4,rfl,aI⟩;have J:=za (V.out.trans aI);have az:=za (show Ext w aO from J.out.toExt aA.out (fun q hs=>by have:=u.out q hs;omega));have i:=aI.blk (aP.out.ext y) bJ.out;have cj:=za ((aQ.out.ext y).kp aI);have cC:=aI.size;cases hsf:zo s p L z with
     |false =>
      have hv:=za (show vpT s t p=⟨1,noA,zY [s,t] p,r+1⟩ by
       rw [<- ah.out,aj.out,if_neg (show ¬ zo s p L z=kC by rw [hsf];decide),if_neg (show ¬ ((1:Int)=0) by decide),if_pos (show (1:Int)=1 from rfl)])
      have HP:=za (ce.out aO az.out);have k4:=(J.out.blk B4.out (fun h=>by have:=u.out _ h;omega)).1.cell;have k5:=(J.out.blk B5.out (fun h=>by have:=u.out _ h;omega)).1.cell;have bs:=(J.out.blk B6.out (fun h=>by have:=u.out _ h;omega)).1;have k6:∀ (v:Array kL) (q:Nat),(aO.alloc (.cells v 38)).cell? ⟨w.heap.size+1+1,q,gP⟩=_:=fun v q=>(bs.ext ((dB aO).alloc (.cells v 38))).cell q;have cn:=(J.out.blk B8.out (fun h=>by have:=u.out _ h;omega)).1;clear ae;go_upto_region 99 with fail
      refine HP.out.mono (mQ fun wF hxF=>?_);have E:=cn.ext hxF;have k8:=E.cell;have f8:=E.frozen;clear k4 k5 k6 bs;go_wp2_with fail
      have zku:=vd_fin (az.out.trans hxF) E oM (.int kA 1) (.int kA 0) (fQ gP 0 0) (fQ gP 0 0) (.string (zY [s,t] p)) (.int kA ((r:Int)+1));have cf:=zku.1.cell;have Hx:=za zku.2.2;clear zku k8 f8 E;generalize (((((wF.setCell ⟨w.heap.size+1+1+1,0,gP⟩ (1:Int)).setCell ⟨w.heap.size+1+1+1,1,gP⟩ (0:Int)).setCell ⟨w.heap.size+1+1+1,2,gP⟩ ()).setCell ⟨w.heap.size+1+1+1,3,gP⟩ ()).setCell ⟨w.heap.size+1+1+1,4,gP⟩ (.string (zY [s,t] p))).setCell ⟨w.heap.size+1+1+1,5,gP⟩ (.int kA ((r:Int)+1))=X at *;exact bodyPost_ret (v:=kO #[(1:Int),(0:Int),(),(),kU (zY [s,t] p),((r:Int)+1:Int)]) (by simp [results,Tryz.results72,go_sem,cf]) rfl (by
       rw [hv.out];exact⟨gP,0,0,gP,0,0,by simp [noA],zbU _ _,Hx.out⟩)
     |true =>
      have cG:=(J.out.blk aF.out (ag.out _ (dD _))).1.cell;have aD:=i.1.cell;have a9:=za (zdr (x:=z) S.out J.out.j oM cj.out hI aH (by have:=y.size;have:=Q.size;omega) hL aG.out aC);clear ae;go_upto_region 99 with fail
      refine a9.out.mono ?_;rintro e cJ ⟨S3,av,U⟩;have ab:=za ((J.out.trans av).more S.out.ok (show 21840+30000*r+1692+1+27840<=21840+30000*(r+1) by omega));have aa:=za (show runT s t p L (12 - (r+1)) (r+1) (zaD L (zo s p L) rs cs z)=vpT s t p by
       rw [<- ah.out,aj.out,if_pos hsf,if_neg (show ¬ ((-1:Int)=0) by decide),if_neg (show ¬ ((-1:Int)=1) by decide),show 12 - (r+1)=11 - r by omega])
      have H:=za (aK.out.ao z);have D:=av.blk i.1 i.2;have cH:=D.1.cell;have cp:=D.1.frozen;have bM:=i.1.lt;clear aD cG;rcases U with ⟨hn,rfl⟩|⟨bj,a3,R2,C2,cr2,cc2,hn,rfl,bb⟩
      ·rw [hn] at H aa;go_wp2_with fail
       go_roundw
       case rel=>exact⟨r+1,gP,S3,rfl,gM,oM,za ((ab.out.cell S.out.ok (oH l.out) (oH l.out) D.2 0 _).cell S.out.ok (oH l.out) (oH l.out) D.2 1 _),za ⟨D.2,.inl ⟨rfl,_,_,(D.1.ab 0 _).ab 1 _⟩⟩,H,aa⟩
       case measure=>exact uM
      ·rw [hn] at H aa;have bc:=za (zfa (base:=w5.heap.size) D.1 D.2 bb (by have:=y.size;have:=Q.size;omega) bM);go_wp2_with fail
       go_roundw
       case rel=>exact⟨r+1,gO (bj,a3),S3,rfl,gM,oM,za ((ab.out.cell S.out.ok (oH l.out) (oH l.out) D.2 0 _).cell S.out.ok (oH l.out) (oH l.out) D.2 1 _),bc,H,aa⟩
       case measure=>exact uM
   |true =>
    have aj:=za (show zbj s p t L a=(zay (zaI s a p) L,-1) by unfold zbj;rw [if_pos hub]);have aB:=zcn bg.out.1 L;have aC:(zay (zaI s a p) L).size<=4000:=by have:=zdU (zaI s a p) L;have:=bg.out.2;omega
    have ax:=za (zcT (s:=zaI s a p) (a:=L) (w:=cI) bg.out.1 oM);have k9:=(bn.out.ext Y).cell;obtain⟨z,hz⟩:∃ z,Hid (zay (zaI s a p) L=z):=⟨_,za rfl⟩;rw [hz.out] at aB aC aj ax;have aG:=za aB;go_upto_region 20 with (go_at_call 53;refine ax.out.mono (mQ fun bW af=>?_))
    have y:=Y.trans af;have V:=za (ad.out.ext S.out.ok y);have a9:=za (zdr (x:=z) S.out V.out.j oM (aQ.out.ext y) hI aH (by have:=y.size;have:=Q.size;omega) hL aG.out aC);have ae:=(V.out.blk aF.out (ag.out _ (dD _))).1.cell;have ao:=za (aP.out.ext y);have aD:=ao.out.cell;go_upto_region 99 with fail
    refine a9.out.mono ?_;rintro e cJ ⟨S3,av,U⟩;have ab:=za ((V.out.trans av).more S.out.ok (show 21840+30000*r+1692+27840<=21840+30000*(r+1) by omega));have aa:=za (show runT s t p L (12 - (r+1)) (r+1) (zaD L (zo s p L) rs cs z)=vpT s t p by
     rw [<- ah.out,aj.out,if_neg (show ¬ ((-1:Int)=0) by decide),if_neg (show ¬ ((-1:Int)=1) by decide),show 12 - (r+1)=11 - r by omega])
    have H:=za (aK.out.ao z);have i:=av.blk ao.out bJ.out;have cH:=i.1.cell;have cp:=i.1.frozen;clear aD ae k9;rcases U with ⟨hn,rfl⟩|⟨bj,a3,R2,C2,cr2,cc2,hn,rfl,bb⟩
    ·rw [hn] at H aa;go_wp2_with fail
     go_roundw
     case rel=>exact⟨r+1,gP,S3,rfl,gM,oM,za ((ab.out.cell S.out.ok (oH l.out) (oH l.out) i.2 0 _).cell S.out.ok (oH l.out) (oH l.out) i.2 1 _),za ⟨i.2,.inl ⟨rfl,_,_,(i.1.ab 0 _).ab 1 _⟩⟩,H,aa⟩
     case measure=>exact uM
    ·rw [hn] at H aa;have bc:=za (zfa (base:=w5.heap.size) i.1 i.2 bb (by have:=y.size;have:=Q.size;omega) (oH ao.out.lt));go_wp2_with fail
     go_roundw
     case rel=>exact⟨r+1,gO (bj,a3),S3,rfl,gM,oM,za ((ab.out.cell S.out.ok (oH l.out) (oH l.out) i.2 0 _).cell S.out.ok (oH l.out) (oH l.out) i.2 1 _),bc,H,aa⟩
     case measure=>exact uM
end
theorem vpT_cert (s t:Sys) (p:Aut):((vpT s t p).code=0->zfR kC (vpT s t p).asm (vpT s t p).tr=kC)/\((vpT s t p).code=1->zfR kK (vpT s t p).asm (vpT s t p).tr=kC):=by
 rcases zcZ s t p with h|⟨L,h⟩
 ·rw [ziq h];exact⟨(fun h=>by cases h),(fun h=>by cases h)⟩
 ·have a:=vpT_ok h;obtain⟨b,c,d⟩:=zck (s:=s) (p:=p) (t:=t) oM;refine⟨fun h0=>?_,fun h1=>?_⟩
  ·rw [a.quiet oM];unfold zfR;rw [if_pos rfl,(a.holds h0).1];rw [ByteArray.toList,ByteArray.toList.loop,if_neg dM];rfl
  ·rw [a.none_ oM];unfold zfR;rw [if_neg dM,zhy b d c];rfl
section
variable {w:kJ}{lo hi n c lo1 hi1 m d m' d' lo2 hi2 k c2:Nat}{A B B' C:Option Addr}{s t:Sys}{p:Aut}
theorem impl_TaskOf0 (hs:zR w lo hi A n s)(hp:zF w lo1 hi1 B m B' m' p)(ht:zR w lo2 hi2 C k t)(hif:iface s p t = -1) :
  kQ kN 39 #[kO #[s.al,s.st,fQ A n c],kO #[p.al,fQ B m d,fQ B' m' d'],kO #[t.al,t.st,fQ C k c2]] w
   fun e w'=>e=kP (.tuple #[kO #[(0:Int),(0:Int),(),(0:Int),(),(),(0:Int)],kR kK])/\Ext w w':=by
 have b:=za (fun W (hW:Ext w W)=>zeq (c:=c) (d1:=d) (d1':=d') (c2:=c2) (hs.ext hW) (hp.ext hW) (ht.ext hW));rw [hif] at b;clear hs hp ht hif;obtain⟨o,U0⟩:∃ x,Hid ((((w.alloc (.cells #[s.al,s.st,fQ A n c] 38)).alloc (.cells #[p.al,fQ B m d,fQ B' m' d'] 27)).alloc (.cells #[t.al,t.st,fQ C k c2] 38)).alloc (.cells #[(0:Int),(0:Int),(),(0:Int),(),(),(0:Int)] 70)=x):=⟨_,za rfl⟩;have g:Ext w o:=(((((dB _).alloc _).alloc _).alloc _).alloc _).trans (fV U0.out);obtain⟨q,r,u⟩:=zaa (((dB _).alloc _).trans (fV U0.out));have l:=eM U0.out;simp only [World.size_alloc] at l
 go_enter Tryz.func39,Tryz.ntmps39
 go_upto_region 1 with fail
 rw [U0.out] at *;have G:=q.cells;have F:=r.cells;have H:=u.cells;have E:=dB o;go_upto_region 99 with fail
 refine (b.out _ g).mono (mQ fun h a=>?_);have i:=l.ext a;have J:=i.cell;have I:=i.frozen;have j:=g.trans a;have D:Frm (fun k=>k=w.heap.size+1+1+1) h (((((((h.setCell ⟨w.heap.size+1+1+1,0,gP⟩ (0:Int)).setCell ⟨w.heap.size+1+1+1,1,gP⟩ (0:Int)).setCell ⟨w.heap.size+1+1+1,2,gP⟩ ()).setCell ⟨w.heap.size+1+1+1,3,gP⟩ (0:Int)).setCell ⟨w.heap.size+1+1+1,4,gP⟩ ()).setCell ⟨w.heap.size+1+1+1,5,gP⟩ ()).setCell ⟨w.heap.size+1+1+1,6,gP⟩ (0:Int)):=
  ((((((dG h _ 0 _).trans (dG _ _ 1 _)).trans (dG _ _ 2 _)).trans (dG _ _ 3 _)).trans (dG _ _ 4 _)).trans (dG _ _ 5 _)).trans (dG _ _ 6 _)
 have y:Blk (((((((h.setCell ⟨w.heap.size+1+1+1,0,gP⟩ (0:Int)).setCell ⟨w.heap.size+1+1+1,1,gP⟩ (0:Int)).setCell ⟨w.heap.size+1+1+1,2,gP⟩ ()).setCell ⟨w.heap.size+1+1+1,3,gP⟩ (0:Int)).setCell ⟨w.heap.size+1+1+1,4,gP⟩ ()).setCell ⟨w.heap.size+1+1+1,5,gP⟩ ()).setCell ⟨w.heap.size+1+1+1,6,gP⟩ (0:Int)) (w.heap.size+1+1+1) 70 #[.int kA 0,.int kA 0,fQ gP 0 0,.int kA 0,fQ gP 0 0,fQ gP 0 0,.int kA 0]:=by
  simpa using ((((((i.ab 0 (.int kA 0)).ab 1 (.int kA 0)).ab 2 (fQ gP 0 0)).ab 3 (.int kA 0)).ab 4 (fQ gP 0 0)).ab 5 (fQ gP 0 0)).ab 6 (.int kA 0)
 have f:=za (j.frm D (fun k hk e=>oM));go_wp2_with fail
 generalize (((((((h.setCell ⟨w.heap.size+1+1+1,0,gP⟩ (0:Int)).setCell ⟨w.heap.size+1+1+1,1,gP⟩ (0:Int)).setCell ⟨w.heap.size+1+1+1,2,gP⟩ ()).setCell ⟨w.heap.size+1+1+1,3,gP⟩ (0:Int)).setCell ⟨w.heap.size+1+1+1,4,gP⟩ ()).setCell ⟨w.heap.size+1+1+1,5,gP⟩ ()).setCell ⟨w.heap.size+1+1+1,6,gP⟩ (0:Int))=W at *;have z:=y.cell;exact bodyPost_ret (v:=.tuple #[kO #[(0:Int),(0:Int),(),(0:Int),(),(),(0:Int)],kR kK]) (by simp [results,Tryz.results39,go_sem,z]) rfl ⟨rfl,f.out⟩
theorem zgY (hs:zR w lo hi A n s)(hp:zF w lo1 hi1 B m B' m' p)(ht:zR w lo2 hi2 C k t)(hif:iface s p t = -1) :
  kQ kN 72 #[kO #[s.al,s.st,fQ A n c],kO #[t.al,t.st,fQ C k c2],kO #[p.al,fQ B m d,fQ B' m' d'],.nilFunc] w (zjt w ⟨3,noA,⟨#[]⟩,0⟩):=by
 have i:=za (fun W (hW:Ext w W)=>impl_TaskOf0 (c:=c) (d:=d) (d':=d') (c2:=c2) (hs.ext hW) (hp.ext hW) (ht.ext hW) hif);clear hs hp ht hif;obtain⟨D,U0⟩:∃ x,Hid ((((w.alloc (.cells #[s.al,s.st,fQ A n c] 38)).alloc (.cells #[t.al,t.st,fQ C k c2] 38)).alloc (.cells #[p.al,fQ B m d,fQ B' m' d'] 27)).alloc (.cells #[(0:Int),(0:Int),(),(),kU ⟨#[]⟩,(0:Int)] 42)=x):=⟨_,za rfl⟩;have b:Ext w D:=(((((dB _).alloc _).alloc _).alloc _).alloc _).trans (fV U0.out);obtain⟨l,o,q⟩:=zaa (((dB _).alloc _).trans (fV U0.out));have h:=eM U0.out;simp only [World.size_alloc] at h
 go_enter Tryz.func72,Tryz.ntmps72
 go_upto_region 1 with fail
 rw [U0.out] at *;have u:=l.cell;have y:=o.cell;have z:=q.cell;go_upto_region 99 with fail
 refine (i.out _ b).mono (mQ fun E g=>?_);have f:=g.alloc (.cells #[(0:Int),(0:Int),(),(0:Int),(),(),(0:Int)] 70);have a:=h.ext f;have G:=a.cell;have F:=a.frozen;clear u y z;have zku:=vd_fin (b.trans f) a oM (.int kA 3) (.int kA 0) (fQ gP 0 0) (fQ gP 0 0) (.string ⟨#[]⟩) (.int kA 0);have r:=zku.1.cell;have j:=za zku.2.2;clear zku a;go_wp2_with fail
 generalize ((((((E.alloc (.cells #[(0:Int),(0:Int),(),(0:Int),(),(),(0:Int)] 70)).setCell ⟨w.heap.size+1+1+1,0,gP⟩ (3:Int)).setCell ⟨w.heap.size+1+1+1,1,gP⟩ (0:Int)).setCell ⟨w.heap.size+1+1+1,2,gP⟩ ()).setCell ⟨w.heap.size+1+1+1,3,gP⟩ ()).setCell ⟨w.heap.size+1+1+1,4,gP⟩ (.string ⟨#[]⟩)).setCell ⟨w.heap.size+1+1+1,5,gP⟩ (0:Int)=X at *;exact bodyPost_ret (v:=kO #[(3:Int),(0:Int),(),(),kU ⟨#[]⟩,(0:Int)]) (by simp [results,Tryz.results72,go_sem,r]) rfl ⟨gP,0,0,gP,0,0,rfl,zbU _ _,j.out⟩
theorem zdm {v:Vd}(HR:Hid (∀ W,Ext w W->kQ kN 72 #[kO #[s.al,s.st,fQ A n c],kO #[t.al,t.st,fQ C k c2],kO #[p.al,fQ B m d,fQ B' m' d'],.nilFunc] W (zjt W v))) :
  kQ kN 20 #[kO #[s.al,s.st,fQ A n c],kO #[t.al,t.st,fQ C k c2],kO #[p.al,fQ B m d,fQ B' m' d']] w (zjt w v):=by
 obtain⟨y,U0⟩:∃ x,Hid ((((w.alloc (.cells #[s.al,s.st,fQ A n c] 38)).alloc (.cells #[t.al,t.st,fQ C k c2] 38)).alloc (.cells #[p.al,fQ B m d,fQ B' m' d'] 27)).alloc (.cells #[(0:Int),(0:Int),(),(),kU ⟨#[]⟩,(0:Int)] 42)=x):=⟨_,za rfl⟩;have b:Ext w y:=(((((dB _).alloc _).alloc _).alloc _).alloc _).trans (fV U0.out);obtain⟨E,F,G⟩:=zaa (((dB _).alloc _).trans (fV U0.out));have r:=eM U0.out;simp only [World.size_alloc] at r
 go_enter Tryz.func20,Tryz.ntmps20
 go_wp2_with fail
 rw [U0.out] at *;refine (HR.out y b).mono ?_;rintro e J ⟨g,o,j,h,q,l,rfl,u,f⟩;have a:=r.ext f;have I:=a.cell;have H:=a.frozen;have zku:=vd_fin (b.trans f) a oM (.int kA v.code) (.int kA v.asm.al) (fQ g o j) (fQ h q l) (.string v.tr) (.int kA v.ro);have i:=za ((u.aq a zku.2.1 dM).less b.size);have D:=zku.1.cell;have z:=za zku.2.2;clear zku a u;go_wp2_with fail
 exact bodyPost_ret (v:=kO #[v.code,v.asm.al,fQ g o j,fQ h q l,v.tr,v.ro]) (by simp [results,Tryz.results20,go_sem,D]) rfl ⟨g,o,j,h,q,l,rfl,i.out,z.out⟩
theorem zhL (hs:zR w lo hi A n s)(hp:zF w lo1 hi1 B m B' m' p)(ht:zR w lo2 hi2 C k t)(hT:Tab w) :
  kQ kN 20 #[kO #[s.al,s.st,fQ A n c],kO #[t.al,t.st,fQ C k c2],kO #[p.al,fQ B m d,fQ B' m' d']] w (zjt w (vpT s t p)):=by
 rcases zcZ s t p with h|⟨L,h⟩
 ·rw [ziq h];exact zdm (za (fun W hW=>zgY (hs.ext hW) (hp.ext hW) (ht.ext hW) h))
 ·have a:=(zck (show 0<=iface s p t by omega)).1;exact zdm (za (fun W hW=>zhM (hs.ext hW) (hp.ext hW) (ht.ext hW) h (by have:=hs.1;have:=valid_len a;omega) (hT.ext hW)))
end
structure VcOk (x y z:Sys) (p:Aut) (L:Nat) (v:Vc):Prop where
 code:v.code=0\/v.code=1\/v.code=2
 holds:v.code=0->zj v.fst=kC/\v.fst.al=(L:Int)/\zje x v.fst p=kC/\((vpT y z v.fst).code=0/\v.snd=(vpT y z v.fst).asm)/\v.ro<=v.fst.next.length
 none_:v.code≠0->v.fst=noA/\v.snd=noA
 fails:v.code=1->zer [x,y,z] p=kK/\v.tr=zY [x,y,z] p
 quiet:v.code≠1->v.tr=⟨#[]⟩
 ro:1<=v.ro/\v.ro<=12
section
variable {x y z:Sys}{p a:Aut}{L:Nat}
theorem judgeC_zero (hx:zk x=kC)(hp:zj p=kC)(ha:zj a=kC)(h:(zaQ x y z p L a).2.1=0):zje x a p=kC/\(vpT y z a).code=0/\(zaQ x y z p L a).2.2=(vpT y z a).asm:=by
 unfold zaQ at h ⊢
 split at h
 ·cases h
 ·rename_i h1;rw [if_neg h1]
  split at h
  ·rename_i h2;rw [if_pos h2];refine⟨?_,h2,rfl⟩;rw [zgU,show zce x a p=kC by unfold zce;rw [hx,ha,hp];rfl];simpa using h1
  ·split at h
   ·cases h
   ·split at h<;>cases h
theorem judgeC_one (hL:L=(x.al.toNat|||p.al.toNat)&&&zE [y,z])(hx:zk x=kC)(hy:zk y=kC)(hz:zk z=kC)(ha:zj a=kC)(h:(zaQ x y z p L a).2.1=1):zer [x,y,z] p=kK:=by
 unfold zaQ at h
 split at h
 ·cases h
 ·split at h
  ·cases h
  ·rename_i h2
   split at h
   ·cases h
   ·rename_i h3
    split at h
    ·cases h
    ·rename_i h4;obtain⟨M,f⟩:∃ M:Nat,iface y a z=(M:Int):=⟨_,zez hy ha hz⟩;have b:=vpT_ok f;have d:(vpT y z a).code=1:=by
      rcases b.code with h|h|h
      ·exact absurd h h2
      ·exact h
      ·exact absurd h h3
     obtain⟨c,i⟩:=b.fails d;rw [i] at h4;have g:zbi [y,z] a=kC:=by
      rw [zhF,show zbb [y,z] a=kC by unfold zbb;rw [ha,zgj sM sM (by simp [hy,hz])];rfl] at c;simpa using c
     obtain⟨j,-⟩:=brok_top g;obtain⟨-,k,l,m⟩:=top_iff.1 j;exact zeE (L:=L) hL (zgj sM sM (by simp [hx,hy,hz])) k l m (by simpa using h4)
theorem chT_ok (hx:zk x=kC)(hy:zk y=kC)(hz:zk z=kC)(hp:zj p=kC)(hL:L=(x.al.toNat|||p.al.toNat)&&&zE [y,z])(h64:L<64) :
  ∀ (g k:Nat) (o:Option (List ByteArray × List ByteArray)),zjq L (zo x p L) k o->12<=g+k->VcOk x y z p L (chT x y z p L g k o):=by
 have h2:∀ k,1<=k/\k<=12->VcOk x y z p L ⟨2,noA,noA,⟨#[]⟩,k⟩:=fun k hk=>⟨.inr (.inr rfl),(fun h=>by cases h),fun _=>⟨rfl,rfl⟩,(fun h=>by cases h),fun _=>rfl,hk⟩;intro g
 induction g with
 |zero =>
  intro k o ho hg;rw [chT];cases o with
  |none=>exact h2 k (ho.none_ rfl)
  |some tab =>
   have h1:=(ho.tab tab.1 tab.2 rfl).1.r12;have h2:=ho.more tab.1 tab.2 rfl;omega
 |succ g ih =>
  intro k o ho hg;cases o with
  |none=>rw [chT];exact h2 k (ho.none_ rfl)
  |some tab =>
   obtain⟨rs,cs⟩:=tab;obtain⟨c,b⟩:=ho.tab rs cs rfl;have hk:=ho.more rs cs rfl;have d:=c.r12;have a:=zbe c b h64;rw [chT];split
   ·rename_i hj;obtain⟨f,i,j⟩:=judgeC_zero hx hp a hj;refine⟨.inl rfl,fun _=>⟨a,rfl,f,⟨i,j⟩,?_⟩,fun h=>absurd rfl h,(fun h=>by cases h),fun _=>rfl,⟨by show 1<=k+1;omega,by show k+1<=12;omega⟩⟩;show k+1<=(rs.map _).length;rw [List.length_map];omega
   ·split
    ·exact h2 (k+1) ⟨oM,oM⟩
    ·split
     ·rename_i hj;exact⟨.inr (.inl rfl),(fun h=>by cases h),fun _=>⟨rfl,rfl⟩,fun _=>⟨judgeC_one hL hx hy hz a hj,rfl⟩,fun h=>absurd rfl h,⟨by show 1<=k+1;omega,by show k+1<=12;omega⟩⟩
     ·exact ih _ _ (ho.ao _) oM
end
theorem chain_union :zE [y,z]=y.al.toNat|||z.al.toNat:=by simp [zE]
theorem vcT_ok (h:three [x,y,z] p=kC):∃ L:Nat,zaw [x,y,z] p=(L:Int)/\L<64/\VcOk x y z p L (vcT [x,y,z] p):=by
 obtain⟨_,c,g⟩:=zgr.1 h;obtain⟨-,hv⟩:=zap c;obtain⟨d,-⟩:=chain_nat h;obtain⟨L,a,f⟩:=zeT h;have b:L=(x.al.toNat|||p.al.toNat)&&&zE [y,z]:=by
  rw [a] at d;rw [chain_union];exact Int.ofNat.inj d
 refine⟨L,a,oM,?_⟩;unfold vcT;dsimp only;rw [a,if_pos oM,Int.toNat_natCast];exact chT_ok (hv x sM) (hv y sM) (hv z sM) g b oM 12 0 _ (zjq.start _ _) oM
theorem zil (h:three ss p=kK):vcT ss p=⟨3,noA,noA,⟨#[]⟩,0⟩:=by
 unfold vcT;split
 ·rw [if_neg (by unfold zaw;rw [h,if_neg dM];omega)]
 ·rfl
theorem vcT_valid (h:(vcT ss p).code≠3):three ss p=kC:=by
 rw [<- Bool.not_eq_false];intro hn;rw [zil hn] at h;exact h rfl
end Go.Proofs.YtckbjnndaaoddaaGreatDoor
