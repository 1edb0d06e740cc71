/- spec.l9Spoil -/
import Derived.Test.YtckbjnndaaoddaaGreatDoorW16
import Derived.Lib.ItoaNum
import Derived.Shelf.Strconv.Itoa1
set_option maxHeartbeats 6400000
set_option maxRecDepth 100000
namespace Go.Proofs.YtckbjnndaaoddaaGreatDoor
open Go Go.RowKit
open Bool renaming and_eq_true->dH,eq_iff_iff->gJ,false->j1,true->jU
open Ext renaming eq_->e6,refl->cY
open Int renaming toNat_natCast->eM
open List renaming append_assoc->iC,cons_append->iA,eq_nil_of_length_eq_zero->dP,flatMap_cons->iU,foldl_cons->iF,getD_eq_getElem?_getD->dE,getElem?_append_left->dI,getElem?_append_right->dT,getElem?_eq_getElem->dB,getElem?_eq_none->dV,getElem?_map->dO,getElem?_of_mem->dY,length_append->dK,length_map->dQ,length_singleton->dU,map_append->eH,map_congr_left->iE,map_singleton->iQ,mem_of_getElem?->dC,nil_append->eI,range->eT,replicate->dS,take_length->eJ,take_of_length_le->dJ,getElem?_eq_some_iff->j9,mem_filter->kL,mem_map->kC,mem_singleton->kF
open Nat renaming le_of_lt_succ->eF,le_refl->dD,lt_or_eq_of_le->dX,pow_le_pow_right->eD,testBit_or->fX,zero_le->dF
open Option renaming getD_some->eL,map_some->gX,map_eq_some_iff->kK,ne_none_iff_exists'->kQ,none->fV,some->fU
open Reads renaming af->eE
open Go renaming Calls->j6,World->jX
open Go.Ending renaming returned->j5
open Go.IntKind renaming i64->iX
open Go.Value renaming agg->j2,pointer->kB,slice->fC,string->kA
open Option.some renaming inj->j8
open _root_.Go.Proofs.Tryz renaming prog->j3
variable {A B B' C:Option Addr}{K L M N R b c c2 d d' j k l lo m m' n q v x y:Nat}{S:Nat->Prop}{T U ds:List Nat}{W w:jX}{a p:Aut}{f:ByteArray->Bool}{r:List Int}{rows:List (List Int)}{s t:Sys}
theorem zjw {w':jX}(h:Frm S w w'){p:Addr}{v:Value}(hv:w.cell? p=fU v)(hp:¬ S p.block):w'.cell? p=fU v:=
 (World.cell?_of_block (w:=w) (h.block _ (World.block_lt_of_cell? w p hv) hp)).trans hv
theorem zcb.own {w0:jX}(h:zcb w0 W R M L K s A n c t C k c2 p B m d B' m' d'):zcb W W R M L K s A n c t C k c2 p B m d B' m' d':={ h with dr:=Dr.refl _ _,hR:=h.rd.lt }
theorem spec_l9Spoil (h:zcb w w R M L K s A n c t C k c2 p B m d B' m' d')(hM:M<=600000000)(hL:L<=90000)(hK:K<=60) :
  j6 j3 93 #[kB (fU R),j2 #[s.al,s.st,fC A n c],j2 #[p.al,fC B m d,fC B' m' d'],j2 #[t.al,t.st,fC C k c2]] w (RetSPT R (M+100) (L+3) (K+39) w):=by
 have bn:=h.hR;have aj:Ext w ((((((w.alloc (.cells #[s.al,s.st,fC A n c] 38)).alloc (.cells #[p.al,fC B m d,fC B' m' d'] 27)).alloc (.cells #[t.al,t.st,fC C k c2] 38)).alloc (.cells #[(0:Int),(0:Int),()] 38)).alloc (.cells #[(0:Int),(),()] 27)).alloc (.cells #[(0:Int),(0:Int),()] 38)):=((((((cY _).alloc _).alloc _).alloc _).alloc _).alloc _).alloc _;obtain⟨b1,b2,b3⟩:=zK (cY (((w.alloc (.cells #[s.al,s.st,fC A n c] 38)).alloc (.cells #[p.al,fC B m d,fC B' m' d'] 27)).alloc (.cells #[t.al,t.st,fC C k c2] 38)))
 go_enter Tryz.func93,Tryz.ntmps93
 go_upto_region 1 with fail
 have av:(((w.alloc (.cells #[s.al,s.st,fC A n c] 38)).alloc (.cells #[p.al,fC B m d,fC B' m' d'] 27)).alloc (.cells #[t.al,t.st,fC C k c2] 38)).heap.size=w.heap.size+3:=sM;generalize ((w.alloc _).alloc _).alloc _=w0 at *;generalize U0:((w0.alloc _).alloc _).alloc _=w1 at *;obtain⟨U,z1,z2,z3⟩:=Ext.x3_ U0;clear U0;simp only [av] at z1 z2 z3;have ai:Tri w w1 R M L K (w.heap.size+1+1+1) (w.heap.size+1+1+1+1+1) (w.heap.size+1+1+1+1) w.heap.size (w.heap.size+1+1) (w.heap.size+1) s A n c t C k c2 p B m d B' m' d':=
  ⟨h.ext aj,z1,z3,z2,b1.ext U,b3.ext U,.inr (b2.ext U),oM,za (by unfold Ne6;omega)⟩
 have aw:=aj.size;clear z1 z2 z3 b1 b2 b3 aj U h av;have au:=za (show w.heap.size+1≠0 by omega);have S:=za (show Ne6 (w.heap.size+1+1+1) (w.heap.size+1+1+1+1+1) (w.heap.size+1+1+1+1) w.heap.size (w.heap.size+1+1) (w.heap.size+1) by unfold Ne6;omega);generalize hZt:w.heap.size+1+1+1+1+1=Zt at *;generalize hZp:w.heap.size+1+1+1+1=l at *;generalize hZs:w.heap.size+1+1+1=o at *;generalize hGt:w.heap.size+1+1=Gt at *;generalize hGp:w.heap.size+1=Gp at *;generalize hGs:w.heap.size=Gs at *;have F:=za (show w.heap.size<=o/\w.heap.size<=Zt/\w.heap.size<=l by omega);clear hZt hZp hZs hGt hGp hGs aw;go_wp2_with fail
 refine (zF ai.at_.rd oM).mono ?_;rintro e w2 ⟨y,rfl,-,-,f,g⟩;have a:=ai.drawn g f;clear ai f g;go_upto_block 0 with fail
 go_cut [] (fun wx=>∃ (s:Sys) (A:Option Addr) (n c:Nat) (t:Sys) (C:Option Addr) (k c2:Nat) (p:Aut) (B:Option Addr) (m d:Nat) (B':Option Addr) (m' d':Nat),Tri w wx R (M+100) (L+3) (K+39) (o) (Zt) (l) Gs (Gt) (Gp) s A n c t C k c2 p B m d B' m' d')
 case first =>
  have Q:y=0\/y=1\/y=2\/3<=y:=oM;rcases Q with hy|hy|hy|hy
  ·subst hy;have ay:True:=trivial;have Y:=a.bs.cell;go_wp2_with fail
   refine (zbZ (L:=L) a.at_.rd oM a.at_.is a.at_.ns.1.1 oM).mono ?_;rintro e v1 ⟨s1,A1,n1,d1,rfl,af,ab,x,D⟩;have i:=a.drawn D x;clear Y;go_wp2_with fail
   refine (zbZ (L:=L+1) i.at_.rd oM af ab.1 oM).mono ?_;rintro e v2 ⟨s2,A2,n2,d2,rfl,ag,ad,f,g⟩;have j:=i.drawn g f;go_wp2_with fail
   refine (zbZ (L:=L+2) j.at_.rd oM ag ad.1 oM).mono ?_;rintro e v3 ⟨s3,A3,n3,d3,rfl,ah,ae,G,E⟩;have b:=(j.drawn E G).more (N:=M+100) (J:=L+3) (H:=K+39) oM oM oM;have Y:=b.bs.cell;have fG:=b.bs.frozen;have z:=b.setS ah ae;go_wp2_with fail
   go_meet;exact⟨_,_,_,_,_,_,_,_,_,_,_,_,_,_,_,z⟩
  ·subst hy;have ay:True:=trivial;have u:=au.out;have Y:=(a.ax u).cell;go_wp2_with fail
   refine (zeJ a.at_.rd oM a.at_.ip a.at_.bd.out oM).mono ?_;rintro e v1 ⟨b1,A1,n1,d1,B1,m1,e1,rfl,aJ,aG,x,D⟩;have i:=a.drawn D x;have bo:=a.at_.rd.lt;have bp:=i.at_.rd.lt;clear Y;go_wp2_with fail
   refine (zeJ x oM (aJ.less oM) aG.out oM).mono ?_;rintro e v2 ⟨b2,A2,n2,d2,B2,m2,e2,rfl,aK,aH,f,g⟩;have j:=i.drawn g f;have bq:=j.at_.rd.lt;go_wp2_with fail
   refine (zeJ f oM (aK.less oM) aH.out oM).mono ?_;rintro e v3 ⟨b3,A3,n3,d3,B3,m3,e3,rfl,aL,aI,G,E⟩;have b:=(j.drawn E G).more (N:=M+100) (J:=L+3) (H:=K+39) oM oM oM;have Y:=(b.ax u).cell;have fG:=(b.ax u).frozen;have z:=b.setP u (aL.less oM) (BdL.more aI.out oM);go_wp2_with fail
   go_meet;exact⟨_,_,_,_,_,_,_,_,_,_,_,_,_,_,_,z⟩
  ·subst hy;have ay:True:=trivial;have Y:=a.bt.cell;go_wp2_with fail
   refine (zbZ (L:=L) a.at_.rd oM a.at_.it a.at_.ns.2.1 oM).mono ?_;rintro e v1 ⟨s1,A1,n1,d1,rfl,af,ab,x,D⟩;have i:=a.drawn D x;clear Y;go_wp2_with fail
   refine (zbZ (L:=L+1) i.at_.rd oM af ab.1 oM).mono ?_;rintro e v2 ⟨s2,A2,n2,d2,rfl,ag,ad,f,g⟩;have j:=i.drawn g f;go_wp2_with fail
   refine (zbZ (L:=L+2) j.at_.rd oM ag ad.1 oM).mono ?_;rintro e v3 ⟨s3,A3,n3,d3,rfl,ah,ae,G,E⟩;have b:=(j.drawn E G).more (N:=M+100) (J:=L+3) (H:=K+39) oM oM oM;have Y:=b.bt.cell;have fG:=b.bt.frozen;have z:=b.setT ah ae;go_wp2_with fail
   go_meet;exact⟨_,_,_,_,_,_,_,_,_,_,_,_,_,_,_,z⟩
  ·have h0:((y:Int)==0)=j1:=by simp;omega
   have h1:((y:Int)==1)=j1:=by simp;omega
   have h2:((y:Int)==2)=j1:=by simp;omega
   go_wp2_with fail
   go_meet;exact⟨_,_,_,_,_,_,_,_,_,_,_,_,_,_,_,a.more oM oM oM⟩
 case rest =>
  clear a;obtain⟨s,A,n,c,t,C,k,c2,p,B,m,d,B',m',d',ht⟩:=hcut;have u:=au.out;obtain⟨O,aN⟩:∃ O,O=wc:=⟨_,rfl⟩;subst aN;have cS:∀ W,Frm (fun k=>k=o\/k=l) O W->∀ q,W.cell? ⟨Gs,q,fV⟩=#[Value.int iX s.al,.int iX s.st,fC A n c][q]?:=fun W hW=>(ht.bs.frm hW (by have:=S.out;unfold Ne6 at this;omega)).cell;have cT:∀ W,Frm (fun k=>k=o\/k=l) O W->∀ q,W.cell? ⟨Gt,q,fV⟩=#[Value.int iX t.al,.int iX t.st,fC C k c2][q]?:=fun W hW=>(ht.bt.frm hW (by have:=S.out;unfold Ne6 at this;omega)).cell;have cP:∀ W,Frm (fun k=>k=o\/k=l) O W->∀ q,W.cell? ⟨Gp,q,fV⟩=#[Value.int iX p.al,fC B m d,fC B' m' d'][q]?:=fun W hW=>((ht.ax u).frm hW (by have:=S.out;unfold Ne6 at this;omega)).cell;have aq:Frm (fun k=>k=o\/k=l) O O.drew:=(cY O).drew.ak;have I:=ht.ext (cY O).drew;go_wp2_with fail
  refine tR (fun X=>Frm (fun k=>k=o\/k=l) O X) [5] (Ord.of [0,1,2,3,4,5]) ?_;refine tQ ?_;generalize hwD:O.drew=wD at *;clear hwD;have Z:=I.at_;have zs:=I.zs;have V:=I.zt;have zp:=I.zp;have cs:=zs.cell;have fs:=zs.frozen;have r:=za S.out;clear I ht;refine zD fun K hK=>?_;go_simp;have q1:=zao zs rfl (.int iX s.al) (.int iX s.st) (fC A n c);have e1:=zae wD o (.int iX s.al) (.int iX s.st) (fC A n c);replace Z:=Z.far zs e1 F.out.1 dM dM;replace V:=V.frm e1 (by have:=r.out;unfold Ne6 at this;omega);replace zp:=zp.frm e1 (by have:=r.out;unfold Ne6 at this;omega);have aa:=aq.trans (e1.mono (T:=fun k=>k=o\/k=l) (fun k _ hk=>.inl hk));refine hK.out _ _ aa ?_;refine pT ?_;clear cs fs zs e1;generalize ((wD.setCell o s.al).setCell ⟨o,1,fV⟩ s.st).setCell ⟨o,2,fV⟩ (fC A n c)=wA at *;have cp:=zp.cell;have fp:=zp.frozen;refine zD fun K hK=>?_;go_simp;have q2:=zao zp rfl (.int iX p.al) (fC B m d) (fC B' m' d');have e2:=zae wA l (.int iX p.al) (fC B m d) (fC B' m' d');replace Z:=Z.far zp e2 F.out.2.2 dM dM;replace V:=V.frm e2 (by have:=r.out;unfold Ne6 at this;omega);replace q1:=q1.frm e2 (by have:=r.out;unfold Ne6 at this;omega);have ar:=aa.trans (e2.mono (T:=fun k=>k=o\/k=l) (fun k _ hk=>.inr hk));refine hK.out _ _ ar ?_;refine pT ?_;clear cp fp zp e2 aa;generalize ((wA.setCell l p.al).setCell ⟨l,1,fV⟩ (fC B m d)).setCell ⟨l,2,fV⟩ (fC B' m' d')=wB at *;have ct:=V.cell;have ft:=V.frozen;refine zR fun K hK=>?_;go_simp;have q3:=zao V rfl (.int iX t.al) (.int iX t.st) (fC C k c2);have e3:=zae wB Zt (.int iX t.al) (.int iX t.st) (fC C k c2);replace Z:=Z.far V e3 F.out.2.1 dM dM;replace q1:=q1.frm e3 (by have:=r.out;unfold Ne6 at this;omega);replace q2:=q2.frm e3 (by have:=r.out;unfold Ne6 at this;omega);refine hK.out _ _ ?_;refine zap ?_;clear ct ft V e3 ar aq cS cT cP;generalize ((wB.setCell Zt t.al).setCell ⟨Zt,1,fV⟩ t.st).setCell ⟨Zt,2,fV⟩ (fC C k c2)=wC at *;have aF:=za Z;clear Z;go_wp2_with fail
  have c1:=q1.cell;have aE:=q2.cell;have c3:=q3.cell;exact bodyPost_ret (v:=.tuple #[j2 #[s.al,s.st,fC A n c],j2 #[p.al,fC B m d,fC B' m' d'],j2 #[t.al,t.st,fC C k c2]]) (by simp [results,Tryz.results93,go_sem,c1,aE,c3]) rfl ⟨s,A,n,c,t,C,k,c2,p,B,m,d,B',m',d',rfl,aF.out⟩
theorem spec_l12Draw (h:Rd w R M)(hM:M<=500000000) :
  j6 j3 90 #[kB (fU R)] w (RetSTP R (M+200000) 30000 50 w):=by
 have aP:=h.lt
 go_enter Tryz.func90,Tryz.ntmps90
 go_upto_region 1 with fail
 generalize U0:((w.alloc _).alloc _).alloc _=w0 at *;obtain⟨aZ,z1,z2,z3⟩:=Ext.x3_ U0;have cw:w0.heap.size=w.heap.size+3:=by rw [<- U0];simp
 clear U0;go_upto_region 2 with (first
  |(go_at_call 179;refine (spec_l9Three (h.ext aZ) oM).mono ?_;rintro e U ⟨s,A,n,c,t,C,k,E,p,B,m,d,D,Q,I,rfl,S⟩))
 have ad:Ext U (((U.alloc (.cells #[s.al,s.st,fC A n c] 38)).alloc (.cells #[p.al,fC B m d,fC D Q I] 27)).alloc (.cells #[t.al,t.st,fC C k E] 38)):=(((cY _).alloc _).alloc _).alloc _;obtain⟨b1,b2,b3⟩:=zK (cY (((U.alloc (.cells #[s.al,s.st,fC A n c] 38)).alloc (.cells #[p.al,fC B m d,fC D Q I] 27)).alloc (.cells #[t.al,t.st,fC C k E] 38)));have bu:=S.dr.size;have aG:Tri w (((U.alloc (.cells #[s.al,s.st,fC A n c] 38)).alloc (.cells #[p.al,fC B m d,fC D Q I] 27)).alloc (.cells #[t.al,t.st,fC C k E] 38)) R (M+150000) 30000 50 w.heap.size (w.heap.size+1) (w.heap.size+1+1) U.heap.size (U.heap.size+1+1) (U.heap.size+1) s A n c t C k E p B m d D Q I:=
  ⟨((S.less aZ.dr aP).ext ad).more oM oM oM,(z1.dr S.dr oM).ext ad,(z2.dr S.dr oM).ext ad,(z3.dr S.dr oM).ext ad,b1,b3,.inr b2,oM,za (by unfold Ne6;omega)⟩
 clear S b1 b2 b3 z1 z2 z3 ad;have Z:=za (show w.heap.size+3<=U.heap.size by omega);have bg:(((U.alloc (.cells #[s.al,s.st,fC A n c] 38)).alloc (.cells #[p.al,fC B m d,fC D Q I] 27)).alloc (.cells #[t.al,t.st,fC C k E] 38)).heap.size=U.heap.size+3:=sM;clear bu;generalize hG:U.heap.size=G at *;generalize ((U.alloc _).alloc _).alloc _=w2 at *;clear hG U;go_wp2_with fail
 refine (zF aG.at_.rd oM).mono ?_;rintro e w3 ⟨y,rfl,-,-,aW,aC⟩;have ab:=aG.drawn aC aW;have f:=za (show G+3<=w3.heap.size by have:=aC.size;omega);clear aG aW aC bg;go_upto_if 18 with fail
 go_cut [] (fun wx=>∃ (s:Sys) (A:Option Addr) (n c:Nat) (t:Sys) (C:Option Addr) (k E:Nat) (p:Aut) (B:Option Addr) (m d:Nat) (D:Option Addr) (Q I:Nat),Tri w wx R (M+200000) 30000 50 w.heap.size (w.heap.size+1) (w.heap.size+1+1) G (G+1+1) (G+1) s A n c t C k E p B m d D Q I)
 case first =>
  by_cases hy:y=0
  ·subst hy;have cy:True:=trivial;have r:G+1≠0:=oM;go_wp2_with fail
   refine (zjS).mono ?_;rintro e w4 ⟨g,rfl,hg,hT,a0⟩;have aH:=ab.ext a0;have hq:=ab.at_.rd.lt;clear ab;have bN:=a0.size;go_wp2_with fail
   refine (zF aH.at_.rd oM).mono ?_;rintro e w5 ⟨j,rfl,hj,-,bp,aD⟩;have bl:j<9:=by have:=hj oM;omega
   have aI:=aH.drawn aD bp;obtain⟨bt,lt,aT,bm,ah,aV⟩:=hT j bl;have aN:=aD.aa aT (by dsimp only;omega);have x:=zbw aV aD (fun b h1 e=>oM);have bM:(j:Int)<9:=oM;clear hj hT aT aV aH;have co:w3.heap.size<=bt:=(x.lt bt rfl).1;obtain⟨b7,x0,e0,_,_,aw,aO⟩:=(eE x).str (show 0<3 by omega);obtain⟨b8,x1,e1,_,_,ax,az⟩:=(eE x).str (show 1<3 by omega);obtain⟨b9,x2,e2,_,_,ay,aA⟩:=(eE x).str (show 2<3 by omega);obtain rfl:=j8 e0;obtain rfl:=j8 e1;obtain rfl:=j8 e2;have bO:=ah.1 x0 (dC aw.out);have bP:=ah.1 x1 (dC ax.out);have bQ:=ah.2 x2 ay.out;rw [zad,Nat.zero_add] at aO az aA;clear e0 e1 e2 aw ax ay ah bm x;go_wp2_with fail
   refine (zcH aI.at_.rd oM).mono ?_;rintro e w6 ⟨s1,A1,n1,c1,ok,rfl,bq,⟨-,bj⟩,cq,aX,Y⟩;have cn:=za (show R<w.heap.size from aP);have l:=aI.drawn Y aX;have F:=l.bs.cell;have fG:=l.bs.frozen;have o:=l.setS bq (by omega:n1<=30000/\n1<=c1);have f1:=zae w6 G (.int iX s1.al) (.int iX s1.st) (fC A1 n1 c1);have a1:=(Y.aa az (by have:=f.out;have:=Z.out;dsimp only;omega));have ae:=(Y.aa aA (by have:=f.out;have:=Z.out;dsimp only;omega));have kt:=(Y.aa aN (by have:=f.out;have:=Z.out;dsimp only;omega));have bx:=zjw f1 a1 (by have:=f.out;dsimp only;omega);have a2:=zjw f1 ae (by have:=f.out;dsimp only;omega);clear aO az aA aN a1 ae kt aI l f1 Y aX;go_upto_region 6 with fail
   clear F fG;generalize ((w6.setCell G s1.al).setCell ⟨G,1,fV⟩ s1.st).setCell ⟨G,2,fV⟩ (fC A1 n1 c1)=w7 at *;go_wp2_with fail
   refine (zcH o.at_.rd oM).mono ?_;rintro e w8 ⟨s2,A2,n2,d2,cC,rfl,br,⟨-,bk⟩,cr,aY,aE⟩;have ai:=o.drawn aE aY;have F:=ai.bt.cell;have fG:=ai.bt.frozen;have O:=ai.setT br (by omega:n2<=30000/\n2<=d2);have f2:=zae w8 (G+1+1) (.int iX s2.al) (.int iX s2.st) (fC A2 n2 d2);have ae:=(aE.aa a2 (by have:=f.out;have:=Z.out;dsimp only;omega));have bz:=zjw f2 ae (by have:=f.out;dsimp only;omega);clear bx a2 ae o ai f2 aE aY;go_upto_region 7 with fail
   clear F fG;generalize ((w8.setCell ⟨G+1+1,0,fV⟩ s2.al).setCell ⟨G+1+1,1,fV⟩ s2.st).setCell ⟨G+1+1,2,fV⟩ (fC A2 n2 d2)=w9 at *;go_wp2_with fail
   refine (zfx O.at_.rd oM).mono ?_;rintro e bB ⟨b1,A3,n3,d3,A4,n4,d4,cD,rfl,aU,aS,au,aq⟩;have cv:=O.at_.rd.lt;have aj:=O.drawn aq au;have F:=(aj.ax r).cell;have fG:=(aj.ax r).frozen;have V:=aj.setP r (aU.less oM) (BdL.more aS.out oM);clear bz O aj aq au aU;go_upto_region 8 with fail
   clear F fG;generalize ((bB.setCell ⟨G+1,0,fV⟩ b1.al).setCell ⟨G+1,1,fV⟩ (fC A3 n3 d3)).setCell ⟨G+1,2,fV⟩ (fC A4 n4 d4)=cI at *;go_wp2_with fail
   refine (zF V.at_.rd oM).mono ?_;rintro e cJ ⟨y,rfl,-,-,av,ar⟩;have a:=V.drawn ar av;clear V av ar;have ag:y=0\/y=1\/y=2\/3<=y:=oM;rcases ag with hy|hy|hy|hy
   ·subst hy;have F:=a.bs.cell;go_wp2_with fail
    refine (zfk (L:=1001) a.at_.rd oM a.at_.is bj oM oM).mono ?_;rintro e a4 ⟨s5,A5,n5,d5,rfl,aF,bn,z,u⟩;have i:=(a.drawn u z).more (N:=M+200000) (J:=30000) (H:=50) oM oM oM;clear F;have F:=i.bs.cell;have fG:=i.bs.frozen;have o:=i.setS aF (by omega:n5<=30000/\n5<=d5);go_wp2_with fail
    go_meet;exact⟨_,_,_,_,_,_,_,_,_,_,_,_,_,_,_,o⟩
   ·subst hy;have F:=a.bt.cell;go_wp2_with fail
    refine (zfk (L:=1001) a.at_.rd oM a.at_.it bk oM oM).mono ?_;rintro e a4 ⟨s5,A5,n5,d5,rfl,aF,bn,z,u⟩;have i:=(a.drawn u z).more (N:=M+200000) (J:=30000) (H:=50) oM oM oM;clear F;have F:=i.bt.cell;have fG:=i.bt.frozen;have o:=i.setT aF (by omega:n5<=30000/\n5<=d5);go_wp2_with fail
    go_meet;exact⟨_,_,_,_,_,_,_,_,_,_,_,_,_,_,_,o⟩
   ·subst hy;have F:=(a.ax r).cell;go_wp2_with fail
    refine (zjT (L:=x2.size+1) a.at_.rd oM a.at_.ip aS.out oM).mono ?_;rintro e a4 ⟨b5,A5,n5,d5,A6,n6,d6,rfl,bo,bi,z,u⟩;have hq:=a.at_.rd.lt;have i:=(a.drawn u z).more (N:=M+200000) (J:=30000) (H:=50) oM oM oM;clear F;have F:=(i.ax r).cell;have fG:=(i.ax r).frozen;have o:=i.setP r (bo.less oM) (BdL.more bi.out oM);go_wp2_with fail
    go_meet;exact⟨_,_,_,_,_,_,_,_,_,_,_,_,_,_,_,o⟩
   ·have h0:((y:Int)==0)=j1:=by simp;omega
    have h1:((y:Int)==1)=j1:=by simp;omega
    have h2:((y:Int)==2)=j1:=by simp;omega
    go_wp2_with fail
    go_meet;exact⟨_,_,_,_,_,_,_,_,_,_,_,_,_,_,_,a.more oM oM oM⟩
  ·have cx:((y:Int)==0)=j1:=by simp;omega
   go_wp2_with fail
   go_meet;exact⟨_,_,_,_,_,_,_,_,_,_,_,_,_,_,_,ab.more oM oM oM⟩
 case rest =>
  clear ab;obtain⟨s,A,n,c,t,C,k,E,p,B,m,d,D,Q,I,S⟩:=hcut;have r:G+1≠0:=oM;have aa:Hid (G+3<=wc.heap.size/\w.heap.size+3<=G):=za ⟨by have:=(S.bt).lt;omega,Z.out⟩;obtain⟨wE,bw⟩:∃ wE,wE=wc:=⟨_,rfl⟩;subst bw;have cS:∀ W,Frm (fun k=>k=w.heap.size\/k=w.heap.size+1) wE W->∀ q,W.cell? ⟨G,q,fV⟩=#[Value.int iX s.al,.int iX s.st,fC A n c][q]?:=fun W hW=>(S.bs.frm hW (oH aa.out)).cell;have cT:∀ W,Frm (fun k=>k=w.heap.size\/k=w.heap.size+1) wE W->∀ q,W.cell? ⟨G+1+1,q,fV⟩=#[Value.int iX t.al,.int iX t.st,fC C k E][q]?:=fun W hW=>(S.bt.frm hW (oH aa.out)).cell;have cP:∀ W,Frm (fun k=>k=w.heap.size\/k=w.heap.size+1) wE W->∀ q,W.cell? ⟨G+1,q,fV⟩=#[Value.int iX p.al,fC B m d,fC D Q I][q]?:=fun W hW=>((S.ax r).frm hW (oH aa.out)).cell;have aQ:Frm (fun k=>k=w.heap.size\/k=w.heap.size+1) wE wE.drew:=(cY wE).drew.ak;have l:=S.ext (cY wE).drew;go_wp2_with fail
  refine tR (fun X=>Frm (fun k=>k=w.heap.size\/k=w.heap.size+1) wE X) [5] (Ord.of [0,1,2,3,4,5]) ?_;refine tQ ?_;generalize hwD:wE.drew=wD at *;clear hwD;have ha:=l.at_;have zs:=l.zs;have zt:=l.zt;have zp:=l.zp;have cs:=zs.cell;have fs:=zs.frozen;clear l S;refine zD fun K hK=>?_;go_simp;have q1:=zao zs rfl (.int iX s.al) (.int iX s.st) (fC A n c);have e1:=zae wD w.heap.size (.int iX s.al) (.int iX s.st) (fC A n c);replace ha:=ha.far zs e1 oM dM dM;replace zt:=zt.frm e1 oM;replace zp:=zp.frm e1 oM;have aB:=aQ.trans (e1.mono (T:=fun k=>k=w.heap.size\/k=w.heap.size+1) (fun k _ hk=>.inl hk));refine hK.out _ _ aB ?_;refine pT ?_;clear cs fs zs e1;generalize ((wD.setCell w.heap.size s.al).setCell ⟨w.heap.size,1,fV⟩ s.st).setCell ⟨w.heap.size,2,fV⟩ (fC A n c)=wA at *;have ct:=zt.cell;have ft:=zt.frozen;refine zD fun K hK=>?_;go_simp;have q2:=zao zt rfl (.int iX t.al) (.int iX t.st) (fC C k E);have e2:=zae wA (w.heap.size+1) (.int iX t.al) (.int iX t.st) (fC C k E);replace ha:=ha.far zt e2 oM dM dM;replace zp:=zp.frm e2 oM;replace q1:=q1.frm e2 oM;have aR:=aB.trans (e2.mono (T:=fun k=>k=w.heap.size\/k=w.heap.size+1) (fun k _ hk=>.inr hk));refine hK.out _ _ aR ?_;refine pT ?_;clear ct ft zt e2 aB;generalize ((wA.setCell ⟨w.heap.size+1,0,fV⟩ t.al).setCell ⟨w.heap.size+1,1,fV⟩ t.st).setCell ⟨w.heap.size+1,2,fV⟩ (fC C k E)=wB at *;have cp:=zp.cell;have fp:=zp.frozen;refine zR fun K hK=>?_;go_simp;have q3:=zao zp rfl (.int iX p.al) (fC B m d) (fC D Q I);have e3:=zae wB (w.heap.size+1+1) (.int iX p.al) (fC B m d) (fC D Q I);replace ha:=ha.far zp e3 oM dM dM;replace q1:=q1.frm e3 oM;replace q2:=q2.frm e3 oM;refine hK.out _ _ ?_;refine zap ?_;clear cp fp zp e3 aR aQ cS cT cP;generalize ((wB.setCell ⟨w.heap.size+1+1,0,fV⟩ p.al).setCell ⟨w.heap.size+1+1,1,fV⟩ (fC B m d)).setCell ⟨w.heap.size+1+1,2,fV⟩ (fC D Q I)=wC at *;have bh:=za ha;clear ha;go_wp2_with fail
  have c1:=q1.cell;have bd:=q2.cell;have c3:=q3.cell;exact bodyPost_ret (v:=.tuple #[j2 #[s.al,s.st,fC A n c],j2 #[t.al,t.st,fC C k E],j2 #[p.al,fC B m d,fC D Q I]]) (by simp [results,Tryz.results90,go_sem,c1,bd,c3]) rfl ⟨s,A,n,c,t,C,k,E,p,B,m,d,D,Q,I,rfl,bh.out⟩
theorem zac.at_new {base:Nat}{A':Option Addr}{n' c':Nat}(h:zac w base A n c A' n' c' a)(hl:lo<=base):zJ w lo w.heap.size A n A' n' a:=(h.less hl).reads
theorem spec_l12Any (h:Rd w R M)(hM:M<=400000000) :
  j6 j3 102 #[kB (fU R)] w (RetSTP R (M+200100) 30003 89 w):=by
 have au:=h.lt
 go_enter Tryz.func102,Tryz.ntmps102
 go_upto_region 1 with fail
 generalize U0:((w.alloc _).alloc _).alloc _=w0 at *;obtain⟨ai,r,u,y⟩:=Ext.x3_ U0;have a3:w0.heap.size=w.heap.size+3:=by rw [<- U0];simp
 clear U0;go_upto_region 2 with (first
  |(go_at_call 90;refine (spec_l12Draw (h.ext ai) oM).mono ?_;rintro e w1 ⟨s,A,n,c,t,C,k,c2,p,B,m,d,B',m',d',rfl,ht⟩))
 obtain⟨w2,U0⟩:∃ x,Hid (((w1.alloc (.cells #[s.al,s.st,fC A n c] 38)).alloc (.cells #[t.al,t.st,fC C k c2] 38)).alloc (.cells #[p.al,fC B m d,fC B' m' d'] 27)=x):=⟨_,za rfl⟩;have H:Ext w1 w2:=((((cY _).alloc _).alloc _).alloc _).trans (e6 U0.out);obtain⟨b1,z,I⟩:=zK (e6 U0.out);have a4:=ht.dr.size;have zz:=za (And.intro ((r.dr ht.dr oM).ext H) (And.intro ((u.dr ht.dr oM).ext H) ((y.dr ht.dr oM).ext H)));have V:=(ht.less ai.dr au).ext H;have aF:w2.heap.size=w1.heap.size+3:=by rw [<- U0.out];simp
 have aC:w.heap.size+3<=w1.heap.size:=oM;clear ht H r u y ai;generalize hG:w1.heap.size=G at *;rw [U0.out] at *;clear hG;have cS:=b1.cell;have cT:=z.cell;have cP:=I.cell;have HS:=za (spec_l9Spoil V.own oM oM oM);go_wp2_with fail
 refine HS.out.mono ?_;rintro e w7 ⟨j,J,n7,Q,l,O,Y,S,p7,L,Z,U,b,g,f,rfl,ah⟩;have a2:=V.rd.lt;have o:=ah.dr;have i:=ah.less V.dr au;replace b1:=b1.dr o oM;replace z:=z.dr o oM;replace I:=I.dr o oM;obtain⟨r,u,y⟩:=zz.out;replace zz:=za (And.intro (r.dr o oM) (And.intro (u.dr o oM) (y.dr o oM)));clear V ah o r u y HS cS cT cP;have cS:=b1.cell;have fS:=b1.frozen;have cT:=z.cell;have fT:=z.frozen;have cP:=I.cell;have fP:=I.frozen;go_upto_region 3 with fail
 have a:=zae w7 G (.int iX j.al) (.int iX j.st) (fC J n7 Q);have D:=zao b1 rfl (.int iX j.al) (.int iX j.st) (fC J n7 Q);replace i:=i.far b1 a oM dM dM;replace z:=z.frm a oM;replace I:=I.frm a oM;obtain⟨r,u,y⟩:=zz.out;replace r:=r.frm a oM;replace u:=u.frm a oM;replace y:=y.frm a oM;clear zz a b1 cS fS cT fT cP fP;generalize ((w7.setCell G j.al).setCell ⟨G,1,fV⟩ j.st).setCell ⟨G,2,fV⟩ (fC J n7 Q)=w8 at *;have a:=zae w8 (G+1+1) (.int iX p7.al) (fC L Z U) (fC b g f);have q3:=zao I rfl (.int iX p7.al) (fC L Z U) (fC b g f);replace i:=i.far I a oM dM dM;replace z:=z.frm a oM;replace D:=D.frm a oM;replace r:=r.frm a oM;replace u:=u.frm a oM;replace y:=y.frm a oM;clear a I;generalize ((w8.setCell ⟨G+1+1,0,fV⟩ p7.al).setCell ⟨G+1+1,1,fV⟩ (fC L Z U)).setCell ⟨G+1+1,2,fV⟩ (fC b g f)=w9 at *;have a:=zae w9 (G+1) (.int iX l.al) (.int iX l.st) (fC O Y S);have q2:=zao z rfl (.int iX l.al) (.int iX l.st) (fC O Y S);replace i:=i.far z a oM dM dM;replace D:=D.frm a oM;replace q3:=q3.frm a oM;replace r:=r.frm a oM;replace u:=u.frm a oM;replace y:=y.frm a oM;clear a z;generalize ((w9.setCell ⟨G+1,0,fV⟩ l.al).setCell ⟨G+1,1,fV⟩ l.st).setCell ⟨G+1,2,fV⟩ (fC O Y S)=E at *;have F:Hid (w.heap.size+3<=G):=za aC;have cS:∀ W,Frm (fun k=>k=w.heap.size\/k=w.heap.size+1) E W->∀ q,W.cell? ⟨G,q,fV⟩=#[Value.int iX j.al,.int iX j.st,fC J n7 Q][q]?:=fun W hW=>(D.frm hW (oH F.out)).cell;have cT:∀ W,Frm (fun k=>k=w.heap.size\/k=w.heap.size+1) E W->∀ q,W.cell? ⟨G+1,q,fV⟩=#[Value.int iX l.al,.int iX l.st,fC O Y S][q]?:=fun W hW=>(q2.frm hW (oH F.out)).cell;have cP:∀ W,Frm (fun k=>k=w.heap.size\/k=w.heap.size+1) E W->∀ q,W.cell? ⟨G+1+1,q,fV⟩=#[Value.int iX p7.al,fC L Z U,fC b g f][q]?:=fun W hW=>(q3.frm hW (oH F.out)).cell;have av:Frm (fun k=>k=w.heap.size\/k=w.heap.size+1) E E.drew:=(cY E).drew.ak;have ha:=i.ext (cY E).drew;have zs:=r.ext (cY E).drew;have zt:=u.ext (cY E).drew;have zp:=y.ext (cY E).drew;clear D q2 q3 r u y i;go_wp2_with fail
 refine tR (fun X=>Frm (fun k=>k=w.heap.size\/k=w.heap.size+1) E X) [5] (Ord.of [0,1,2,3,4,5]) ?_;refine tQ ?_;generalize hwD:E.drew=wD at *;clear hwD;have cs:=zs.cell;have fs:=zs.frozen;refine zD fun K hK=>?_;go_simp;have D:=zao zs rfl (.int iX j.al) (.int iX j.st) (fC J n7 Q);have a:=zae wD w.heap.size (.int iX j.al) (.int iX j.st) (fC J n7 Q);replace ha:=ha.far zs a oM dM dM;replace zt:=zt.frm a oM;replace zp:=zp.frm a oM;have ag:=av.trans (a.mono (T:=fun k=>k=w.heap.size\/k=w.heap.size+1) (fun k _ hk=>.inl hk));refine hK.out _ _ ag ?_;refine pT ?_;clear cs fs zs a;generalize ((wD.setCell w.heap.size j.al).setCell ⟨w.heap.size,1,fV⟩ j.st).setCell ⟨w.heap.size,2,fV⟩ (fC J n7 Q)=wA at *;have ct:=zt.cell;have ft:=zt.frozen;refine zD fun K hK=>?_;go_simp;have q2:=zao zt rfl (.int iX l.al) (.int iX l.st) (fC O Y S);have e2:=zae wA (w.heap.size+1) (.int iX l.al) (.int iX l.st) (fC O Y S);replace ha:=ha.far zt e2 oM dM dM;replace zp:=zp.frm e2 oM;replace D:=D.frm e2 oM;have aw:=ag.trans (e2.mono (T:=fun k=>k=w.heap.size\/k=w.heap.size+1) (fun k _ hk=>.inr hk));refine hK.out _ _ aw ?_;refine pT ?_;clear ct ft zt e2 ag;generalize ((wA.setCell ⟨w.heap.size+1,0,fV⟩ l.al).setCell ⟨w.heap.size+1,1,fV⟩ l.st).setCell ⟨w.heap.size+1,2,fV⟩ (fC O Y S)=wB at *;have cp:=zp.cell;have fp:=zp.frozen;refine zR fun K hK=>?_;go_simp;have q3:=zao zp rfl (.int iX p7.al) (fC L Z U) (fC b g f);have e3:=zae wB (w.heap.size+1+1) (.int iX p7.al) (fC L Z U) (fC b g f);replace ha:=ha.far zp e3 oM dM dM;replace D:=D.frm e3 oM;replace q2:=q2.frm e3 oM;refine hK.out _ _ ?_;refine zap ?_;clear cp fp zp e3 aw av cS cT cP;generalize ((wB.setCell ⟨w.heap.size+1+1,0,fV⟩ p7.al).setCell ⟨w.heap.size+1+1,1,fV⟩ (fC L Z U)).setCell ⟨w.heap.size+1+1,2,fV⟩ (fC b g f)=wC at *;have aD:=za ha;clear ha;go_wp2_with fail
 have c1:=D.cell;have aB:=q2.cell;have c3:=q3.cell;exact bodyPost_ret (v:=.tuple #[j2 #[j.al,j.st,fC J n7 Q],j2 #[l.al,l.st,fC O Y S],j2 #[p7.al,fC L Z U,fC b g f]]) (by simp [results,Tryz.results102,go_sem,c1,aB,c3]) rfl ⟨j,J,n7,Q,l,O,Y,S,p7,L,Z,U,b,g,f,rfl,aD.out⟩
def RetD3 (w:jX) (e:Ending) (w':jX):Prop:=
 ∃ (s:Sys) (A:Option Addr) (n c:Nat) (t:Sys) (C:Option Addr) (k c2:Nat) (p:Aut) (B:Option Addr) (m d:Nat) (B':Option Addr) (m' d':Nat),
  e=j5 (.tuple #[j2 #[s.al,s.st,fC A n c],j2 #[t.al,t.st,fC C k c2],j2 #[p.al,fC B m d,fC B' m' d']]) /\
  (zU w' w.heap.size w'.heap.size A n s/\zU w' w.heap.size w'.heap.size C k t/\zJ w' w.heap.size w'.heap.size B m B' m' p) /\
  Hid ((n<=100000/\n<=c)/\(k<=100000/\k<=c2))/\Ext w w'
theorem draw_d3 {w1 W':jX}(hx:Ext w w1)(hR:w.heap.size<=R)(hT:zcb w1 W R M L K s A n c t C k c2 p B m d B' m' d')
  (hF:Frm S W W') (hS:∀ k,S k->w.heap.size<=k/\k<R) (hL:L<=100000) :
  RetD3 w (j5 (.tuple #[j2 #[s.al,s.st,fC A n c],j2 #[t.al,t.st,fC C k c2],j2 #[p.al,fC B m d,fC B' m' d']])) W':=by
 have a:Ext w W:=Dr.new hx hR hT.dr;have f:=hT.is.frm hF (fun k hk h1=>by have:=hS k hk;omega);have g:=hT.it.frm hF (fun k hk h1=>by have:=hS k hk;omega);have h:=hT.ip.keep hF (fun k h1 hk=>by have:=hS k hk;omega);have b:=hT.ns;exact⟨s,A,n,c,t,C,k,c2,p,B,m,d,B',m',d',rfl,⟨f.new hR,g.new hR,h.at_new oM⟩,za oM,a.frm hF (fun k hk hk2=>by have:=hS k hk2;omega)⟩
theorem spec_DrawVerifyPair {A0:Option Addr}{n0 c0:Nat}(h:Bytes w A0 n0)(hn:n0<=9223372036854775807)(hc:n0<=c0)(hc2:c0<=9223372036854775807) :
  j6 j3 38 #[fC A0 n0 c0] w (RetD3 w):=by
 obtain⟨L,U0⟩:∃ x,Hid (((w.alloc (.cells #[(0:Int),(0:Int),()] 38)).alloc (.cells #[(0:Int),(0:Int),()] 38)).alloc (.cells #[(0:Int),(),()] 27)=x):=⟨_,za rfl⟩;have f:Ext w L:=((((cY _).alloc _).alloc _).alloc _).trans (e6 U0.out);obtain⟨g,i,j⟩:=zK (e6 U0.out);have Y:L.heap.size=w.heap.size+3:=by rw [<- U0.out];simp
 have X:=za (h.ext f);clear h
 go_enter Tryz.func38,Tryz.ntmps38
 go_wp2_with fail
 rw [U0.out] at *;refine (spec_l19Open X.out hn hc hc2).mono ?_;rintro e w1 ⟨R,rfl,hR,l,a⟩;have b:=f.trans a;have V:=l.lt;go_wp2_with fail
 refine (spec_l12Any l oM).mono ?_;rintro e F ⟨s,A,n,c,t,C,k,o,p,B,m,d,z,E,D,rfl,y⟩;replace g:=(g.ext a).dr y.dr oM;replace i:=(i.ext a).dr y.dr oM;replace j:=(j.ext a).dr y.dr oM;have c1:=g.cell;have f1:=g.frozen;have U:=i.cell;have f2:=i.frozen;have c3:=j.cell;have f3:=j.frozen;have q:=zae F w.heap.size (.int iX s.al) (.int iX s.st) (fC A n c);have r:=zae (((F.setCell w.heap.size s.al).setCell ⟨w.heap.size,1,fV⟩ s.st).setCell ⟨w.heap.size,2,fV⟩ (fC A n c)) (w.heap.size+1) (.int iX t.al) (.int iX t.st) (fC C k o);have u:=zae ((((((F.setCell w.heap.size s.al).setCell ⟨w.heap.size,1,fV⟩ s.st).setCell ⟨w.heap.size,2,fV⟩ (fC A n c)).setCell ⟨w.heap.size+1,0,fV⟩ t.al).setCell ⟨w.heap.size+1,1,fV⟩ t.st).setCell ⟨w.heap.size+1,2,fV⟩ (fC C k o)) (w.heap.size+1+1) (.int iX p.al) (fC B m d) (fC z E D);have H:=((zao g rfl (.int iX s.al) (.int iX s.st) (fC A n c)).frm r oM).frm u oM;have I:=(zao (i.frm q oM) rfl (.int iX t.al) (.int iX t.st) (fC C k o)).frm u oM;have J:=zao ((j.frm q oM).frm r oM) rfl (.int iX p.al) (fC B m d) (fC z E D);have G:=((q.mono (T:=fun k=>k=w.heap.size\/k=w.heap.size+1\/k=w.heap.size+1+1) (fun k _ hk=>.inl hk)).trans (r.mono (T:=fun k=>k=w.heap.size\/k=w.heap.size+1\/k=w.heap.size+1+1) (fun k _ hk=>.inr (.inl hk)))).trans (u.mono (T:=fun k=>k=w.heap.size\/k=w.heap.size+1\/k=w.heap.size+1+1) (fun k _ hk=>.inr (.inr hk)));have M:=za (draw_d3 b oM y G (fun k hk=>oM) oM);have O:=za H;have Q:=za I;have S:=za J;clear q r u H I J G g i j f a b;go_wp2_with fail
 have Z:=O.out.cell;have r2:=Q.out.cell;have r3:=S.out.cell;exact bodyPost_ret (v:=.tuple #[j2 #[s.al,s.st,fC A n c],j2 #[t.al,t.st,fC C k o],j2 #[p.al,fC B m d,fC z E D]]) (by simp [results,Tryz.results38,go_sem,Z,r2,r3]) rfl M.out
section
variable {lo hi lo' hi' n c m d n' c' m' d':Nat}{A B A' B':Option Addr}{w:jX}
theorem yW17a1 {P:Prop}(h:P:=by
 obtain rfl:x=y:=Option.some.inj (hx.out.symm.trans hy.out);go_wp2
 go_quiet (fail)
 go_wp2;go_roundw
 case rel=>exact⟨k+1,oM,gM,zkj.drewN _⟩
 case measure=>simp [intOf];omega
 ):P:=h
theorem agIntsI_same {l:List Int}(h:Reads w lo hi 1 A n (ints l))(h':Reads w lo' hi' 1 B m (ints l)) :
  j6 j3 201 #[fC A n c,fC B m d] w fun e w'=>e=j5 (.bool jU)/\Ext w w':=by
 have p:=h.len;have b:=h.length;have f:=h'.length;rw [zcX] at b f;obtain rfl:n=m:=oM;clear b f;have g:=za (fun W (hW:Ext w W)=>h.ext hW);have a:=za (fun W (hW:Ext w W)=>h'.ext hW)
 go_enter Tryz.func201,Tryz.ntmps201
 go_wp2
 go_loopw [5] (fun v wr=>∃ k:Nat,k<=n/\v=.int iX k/\Ext w wr) (fun v _=>n - (intOf v).toNat)
 case atStart=>exact⟨0,dF _,rfl,cY _⟩
 case round =>
  obtain⟨k,hk,rfl,zkj⟩:=hrel
  by_cases hlt:k<n
  ·obtain⟨o,x,rfl,_,_,hx,hc⟩:=(g.out wr zkj).int hlt;obtain⟨i,y,rfl,_,_,hy,j⟩:=(a.out wr zkj).int hlt;exact yW17a1
  ·obtain rfl:k=n:=oM;go_wp2;go_ret;exact⟨rfl,zkj⟩
theorem agBools_same {l:List Bool}(h:Reads w lo hi 1 A n (zY l))(h':Reads w lo' hi' 1 B m (zY l)) :
  j6 j3 200 #[fC A n c,fC B m d] w fun e w'=>e=j5 (.bool jU)/\Ext w w':=by
 have p:=h.len;have b:=h.length;have f:=h'.length;rw [zbT] at b f;obtain rfl:n=m:=oM;clear b f;have g:=za (fun W (hW:Ext w W)=>h.ext hW);have a:=za (fun W (hW:Ext w W)=>h'.ext hW)
 go_enter Tryz.func200,Tryz.ntmps200
 go_wp2
 go_loopw [5] (fun v wr=>∃ k:Nat,k<=n/\v=.int iX k/\Ext w wr) (fun v _=>n - (intOf v).toNat)
 case atStart=>exact⟨0,dF _,rfl,cY _⟩
 case round =>
  obtain⟨k,hk,rfl,zkj⟩:=hrel
  by_cases hlt:k<n
  ·obtain⟨o,x,rfl,_,_,hx,hc⟩:=(g.out wr zkj).bool hlt;obtain⟨i,y,rfl,_,_,hy,j⟩:=(a.out wr zkj).bool hlt;exact yW17a1
  ·obtain rfl:k=n:=oM;go_wp2;go_ret;exact⟨rfl,zkj⟩
theorem zhn (h:zJ w lo hi A n A' n' a)(h':zJ w lo' hi' B m B' m' a) :
  j6 j3 111 #[j2 #[a.al,fC A n c,fC A' n' c'],j2 #[a.al,fC B m d,fC B' m' d']] w fun e w'=>e=j5 (.bool jU)/\Ext w w':=by
 have R:=h.1.len;obtain rfl:n=m:=h.1.1.trans h'.1.1.symm;have t:=za (fun W (hW:Ext w W)=>h.1.ext hW);have i:=za (fun W (hW:Ext w W)=>h'.1.ext hW);have r:=za (fun W (hW:Ext w W)=>agBools_same (c:=c') (d:=d') (h.2.2.ext hW) (h'.2.2.ext hW));clear h h'
 go_enter Tryz.func111,Tryz.ntmps111
 go_upto_region 1 with fail
 generalize U0:(w.alloc _).alloc _=q at *;obtain⟨b,x,y⟩:=Ext.x2_ U0;clear U0;have z:=x.cells;have D:=y.cells;have H:=cY q;go_wp2_with (first
  |(go_at_call 200;refine (r.out _ b).mono (mQ fun S o=>?_)))
 go_loopw [5] (fun v wr=>∃ k:Nat,k<=n/\v=.int iX k/\Ext q wr) (fun v _=>n - (intOf v).toNat)
 case atStart=>exact⟨0,dF _,rfl,o⟩
 case round =>
  obtain⟨k,hk,rfl,zkj⟩:=hrel
  by_cases hlt:k<n
  ·obtain⟨M,J,F,l,rfl,_,_,hx,hc,hr⟩:=(t.out wr (b.trans zkj)).row hlt;obtain⟨u,L,G,I,rfl,_,_,hy,j,f⟩:=(i.out wr (b.trans zkj)).row hlt;obtain rfl:l=I:=j8 (hx.out.symm.trans hy.out);have s:=za (fun W (hW:Ext wr W)=>agIntsI_same (c:=F) (d:=G) (hr.ext hW) (f.ext hW));clear hr f;have g:=cY wr;have O:=fun W (hW:Ext wr W)=>hW.aa hc;have Q:=fun W (hW:Ext wr W)=>hW.aa j;have C:=fun W (hW:Ext wr W)=>z W (zkj.trans hW);have E:=fun W (hW:Ext wr W)=>D W (zkj.trans hW);go_upto_region 6 with fail
   refine uR (fun X=>Ext wr X) [10] (zy.of [0,1,2,3,4,5,6,7,8,9,10,11]) ?_;refine uQ ?_;refine zb fun K hK=>?_;go_simp;refine (s.out _ g.drew).mono (mQ fun T p=>?_);refine hK.out _ _ ?_;refine pT ?_;refine uQ ?_;refine zg ?_;go_wp2_with fail
   go_roundw
   case rel=>exact⟨k+1,oM,gM,zkj.trans (g.drew.trans p)⟩
   case measure=>exact uM
  ·obtain rfl:k=n:=oM;go_wp2_with fail
   go_ret;exact⟨rfl,b.trans zkj⟩
end
section
variable {lo hi lo' hi' lo1 hi1 lo2 hi2 n c m d n' c' m' d' k e k' e' q f0 q' f0':Nat}{A B A' B' C C' D D':Option Addr}{w:jX}
theorem agVerdicts_same {v:Vd}(h:zJ w lo hi A n A' n' v.asm)(h':zJ w lo' hi' B m B' m' v.asm) :
  j6 j3 41 #[j2 #[v.code,v.asm.al,fC A n c,fC A' n' c',v.tr,v.ro],j2 #[v.code,v.asm.al,fC B m d,fC B' m' d',v.tr,v.ro]] w fun e w'=>e=j5 (.bool jU)/\Ext w w':=by
 have i:=za (fun W (hW:Ext w W)=>zhn (c:=c) (c':=c') (d:=d) (d':=d') (h.ext hW) (h'.ext hW));clear h h'
 go_enter Tryz.func41,Tryz.ntmps41
 go_upto_region 1 with fail
 generalize U0:(w.alloc _).alloc _=k at *;obtain⟨a,f,g⟩:=Ext.x2_ U0;clear U0;have l:=f.cells;have o:=g.cells;have j:=cY k;clear f g;go_wp2_with (first
  |(go_at_call 111;with_reducible refine (i.out _ a).mono (mQ fun p b=>?_)))
 go_ret;exact⟨rfl,a.trans b⟩
end
theorem wl_app (x y:ByteArray):wl (x++y)=wl x++wl y:=by
 unfold wl;rw [ByteArray.data_append,Array.toList_append,eH]
theorem runA_app (p:Aut) (q:Nat) (u v:List Nat):zal p q (u++v)=zal p (zal p q u) v:=by simp [zal]
theorem inB_app {x y:ByteArray}(hx:inB x L=jU)(hy:inB y L=jU)(hs:x.size+y.size<=50000):inB (x++y) L=jU:=by
 unfold inB at hx hy ⊢;simp only [dH,decide_eq_true_eq] at hx hy ⊢;refine⟨by rw [ByteArray.size_append];exact hs,?_⟩;have a:=hx.2;have b:=hy.2;unfold zjJ at a b ⊢;rw [ByteArray.data_append,Array.toList_append,List.all_append,a,b];rfl
theorem zjB {x:ByteArray}(hx:inB x L=jU):zgV L (wl x):=by
 obtain⟨b,c⟩:=zey.1 hx;refine fun l hl=>⟨zkg b l hl,?_⟩;have a:(alB (wl x)).testBit l=jU:=(zdw _ _).2 hl;rw [<- c,Nat.testBit_and,dH] at a;exact a.2
structure Dec (s:Sys) (p:Aut) (L:Nat) (D:Aut):Prop where
 valid:zj D=jU
 al:D.al=(L:Int)
 ok:∀ w,zgV L w->(zat D (zal D 0 w)=jU↔SafeW s p L w)
section
variable {s t:Sys}{p D a:Aut}{L:Nat}{rows cols:List ByteArray}
theorem Dec.safe (h:Dec s p L D){x:ByteArray}(hx:inB x L=jU):zat D (zal D 0 (wl x))=zu s p L x:=by
 rw [gJ,h.ok _ (zjB hx),zcZ];exact⟨fun k=>⟨hx,k⟩,fun k=>k.2⟩
theorem Dec.mark (h:Dec s p L D)(hI:zbD L (zu s p L) rows cols){x y:ByteArray}(hx:inB x L=jU)(hxs:x.size<=1000)(hy:inB y L=jU)(hys:y.size<=1000)(he:zal D 0 (wl x)=zal D 0 (wl y)) :
  zby (zu s p L) cols x=zby (zu s p L) cols y:=by
 unfold zby
 refine iE fun c hc=>?_;obtain⟨a,b⟩:=hI.cin hc;rw [<- h.safe (inB_app hx a oM),<- h.safe (inB_app hy a oM),wl_app,wl_app,runA_app,runA_app,he]
theorem Dec.few (h:Dec s p L D)(hI:zbD L (zu s p L) rows cols){ws:List ByteArray}(hw:∀ x∈ws,inB x L=jU/\x.size<=1000)(hn:(ws.map (zby (zu s p L) cols)).Nodup):ws.length<=12:=by
 have b:=(zl h.valid).2.1;have a:(ws.map fun x=>zal D 0 (wl x)).Nodup:=by
  unfold List.Nodup at hn ⊢;rw [List.pairwise_map] at hn ⊢;refine List.Pairwise.imp_of_mem (fun {x y} hx hy hne he=>hne ?_) hn;exact h.mark hI (hw x hx).1 (hw x hx).2 (hw y hy).1 (hw y hy).2 he
 have c:(ws.map fun x=>zal D 0 (wl x)) ⊆ eT D.next.length:=by
  intro q hq;obtain⟨x,hx,rfl⟩:=kC.1 hq;exact List.mem_range.2 (zeh h.valid (fun l hl=>(zjB (hw x hx).1 l hl).1) oM)
 have d:=List.Nodup.length_le_of_subset a c;rw [dQ,List.length_range] at d;omega
theorem Dec.close (h:Dec s p L D)(hI:zbD L (zu s p L) rows cols):zar L (zu s p L) cols (12 - rows.length) rows≠fV:=by
 intro hn;have hr:=hI.r12;obtain⟨r,a,b,c⟩:=zhp (12 - rows.length) rows hI oM hn;obtain⟨z,k⟩:=kQ.1 c;obtain⟨⟨m,l,d,f,g,rfl⟩,i⟩:=ziS k;have j:=a.rin d;have:=h.few a (ws:=r++[m++zbU l]) (fun x hx=>by
  rcases List.mem_append.1 hx with hx|hx
  ·exact⟨(a.rin hx).1,by have:=(a.rin hx).2;omega⟩
  ·obtain rfl:=kF.1 hx;exact⟨zjC j.1 oM f g,by rw [ByteArray.size_append,zci];omega⟩) (by
  rw [eH,iQ,List.nodup_append];refine⟨a.nd,sM,fun x hx y hy e=>?_⟩;rw [List.mem_singleton] at hy;subst hy;subst e;exact i hx)
 rw [dK,dU,b] at this;omega
theorem open_same {col:ByteArray}(hc:col∈cols)(ho:zaI L f rows cols=fV):zaI L f rows (cols++[col])=fV:=by
 unfold zaI;rw [List.find?_eq_none];intro z hz;unfold candL at hz;obtain⟨r,hr,c⟩:=List.mem_flatMap.1 hz;obtain⟨l,d,rfl⟩:=kC.1 c;have a:=zdN ho hr d;unfold zaB at a;obtain⟨y,hy,e⟩:=kC.1 a;have e:=zjH e;have b:f (y++col)=f (r++zbU l++col):=by
  unfold zby at e;exact (List.map_inj_left.1 e) col hc
 simp only [Bool.not_eq_true',Bool.not_eq_false];refine zau.2 ?_;unfold zaB;refine kC.2 ⟨y,hy,?_⟩;rw [zdP,zdP,e,b]
theorem split_some (hI:zbD L f rows cols)(ho:zaI L f rows cols=fV){x:ByteArray}(hx:inB x L=jU)(hne:zat (zcM L f rows cols) (zal (zcM L f rows cols) 0 (wl x))≠f x):∃ col,zcl L f rows cols x=fU col:=by
 have d:stT L f rows cols x x.size<rows.length:=by
  have i:∀ (ls:List Nat) (q:Nat),q<rows.length->zgV L ls->zal (zcM L f rows cols) q ls<rows.length:=by
   intro ls
   induction ls with
   |nil=>intro q hq _;exact hq
   |cons a r ih =>
    intro q hq h;obtain⟨m,n⟩:=h a List.mem_cons_self;obtain⟨y,hy,-⟩:=zjk ho (dB hq) m n;exact ih _ (j9.1 hy).1 (fun b hb=>h b (List.mem_cons_of_mem _ hb))
  exact i _ 0 hI.r1 fun a ha=>zjB hx a (List.mem_of_mem_take ha)
 have g:stT L f rows cols x x.size=zal (zcM L f rows cols) 0 (wl x):=by
  unfold stT;rw [dJ (by rw [zfl];exact dD _)]
 have c:zgy L f rows cols x x.size=zat (zcM L f rows cols) (zal (zcM L f rows cols) 0 (wl x)):=by
  rw [<- g];have o:x.extract x.size x.size=⟨#[]⟩:=by
   apply ByteArray.ext;rw [ByteArray.data_extract];simp
  unfold zgy;rw [o,dE,dB d,eL];unfold zat zcM;dsimp only;rw [dE,dO,dB d,gX,eL]
  congr 1
  apply ByteArray.ext;rw [ByteArray.data_append];simp
 have l:zgy L f rows cols x 0=f x:=by
  unfold zgy stT;rw [List.take_zero];show f (rows.getD 0 ⟨#[]⟩++_)=_;rw [dE,hI.r0,eL,zht,empty_append]
 have j:0<x.size:=by
  rcases Nat.eq_zero_or_pos x.size with h|h
  ·rw [h,l] at c;exact absurd c.symm hne
  ·exact h
 unfold zcl;rw [if_neg hne];have p:((eT x.size).find? fun k=>zgy L f rows cols x (k+1) != f x).isSome=jU:=by
  rw [List.find?_isSome];refine⟨x.size - 1,List.mem_range.2 oM,?_⟩;rw [show x.size - 1+1=x.size by omega,c];simpa using hne
 obtain⟨k,hk⟩:=Option.isSome_iff_exists.1 p;exact⟨_,by rw [hk];rfl⟩
theorem Dec.ar (h:Dec s p L D)(hI:zbD L (zu s p L) rows cols)(ho:zaI L (zu s p L) rows cols=fV)(hc:cols.length<=rows.length){x:ByteArray}(hx:inB x L=jU)(h4:x.size<=4000)
  (hne:zat (zcM L (zu s p L) rows cols) (zal (zcM L (zu s p L) rows cols) 0 (wl x))≠zu s p L x):∃ rs cs,zba L (zu s p L) rows cols x=fU (rs,cs)/\cs.length<=rs.length:=by
 have k:=hI.r12;obtain⟨d,c⟩:=split_some hI ho hx hne;have a:=zja hI hx h4;rw [c] at a;have i:=ziZ hI ho a;have f:zcJ cols d=j1:=by
  rw [zbV];exact fun hm=>i (open_same hm ho)
 obtain⟨l,m⟩:=zhX hx h4 c;have b:zfE L cols d=jU:=by
  unfold zfE;rw [l,decide_eq_true m,f,decide_eq_true (show cols.length≠20 by omega)];rfl
 have g:=h.close (hI.addC b);obtain⟨r,hr⟩:=kQ.1 g;have j:zba L (zu s p L) rows cols x=fU (r,cols++[d]):=by
  unfold zba;rw [a];dsimp only;rw [if_pos b,hr];rfl
 obtain⟨n,o⟩:=zhC hI ho j;exact⟨r,_,j,oM⟩
theorem restB_len {x:ByteArray}(L:Nat):(zbx x L).size<=x.size:=zeT x L
theorem judge_wrong (hs:zk s=jU)(hp:zj p=jU)(ha:zj a=jU)(hal:a.al=(L:Int))(h0:(zaM s p t L a).2≠0)(h1:(zaM s p t L a).2≠1) :
  inB (zaM s p t L a).1 L=jU/\(zaM s p t L a).1.size<=4000/\zat a (zal a 0 (wl (zaM s p t L a).1))≠zu s p L (zaM s p t L a).1:=by
 have g:a.al.toNat=L:=by rw [hal];rfl
 have u:∀ v,zal a 0 (v.filter fun l=>L.testBit l)=zal a 0 v:=fun v=>by rw [<- g];exact zhK a v 0
 unfold zaM at h0 h1 ⊢;split
 ·rename_i hu;obtain⟨i,y⟩:=zep hs ha hp;have j:zcn s a p=jU:=by unfold zcn;rw [hs,ha,hp];rfl
  have b:zkc [s] a p=jU:=by unfold zca at hu;rw [j] at hu;simpa using hu
  have D:zaT s a p=vioW [s] a p:=by unfold zaT;rw [if_pos j]
  rcases zje (ss:=[s]) (by simpa using hs) ha hp with ⟨-,v,f,r⟩|⟨f,-⟩
  ·obtain⟨o,⟨E,F,G⟩,-⟩:=r;have d:wl (zaT s a p)=v:=by rw [D,f];exact wl_wstr fun l hl=>(o l hl).1
   have h:wl (zbx (zaT s a p) L)=v.filter fun l=>L.testBit l:=by rw [zhj i,d]
   have m:=zcQ i L;refine⟨m,by dsimp only;have:=restB_len (x:=zaT s a p) L;omega,?_⟩;dsimp only;have c:zu s p L (zbx (zaT s a p) L)=j1:=by
    rw [<- Bool.not_eq_true,zcZ];rintro ⟨-,n⟩;have:=n _ (dD _);rw [eJ,h] at this;refine this ((bad_iff (fun l hl=>?_)).2 ⟨v,fun l hl=>?_,rfl,E s sM,G⟩)
    ·obtain⟨q,k⟩:=kL.1 hl;exact⟨(o l q).1,k⟩
    ·obtain⟨q,k⟩:=o l hl;rw [fX,g,show zG [s]=s.al.toNat by simp [zG]] at k;exact⟨q,by simpa using k⟩
   rw [h,u,F,c];decide
  ·rw [b] at f;cases f
 ·rename_i hu;rw [if_neg hu] at h0 h1;split
  ·rename_i b;rw [if_pos b] at h0 h1;have c:zu s p L (zbx (zaq [t] a) L)=jU:=by
    apply Classical.byContradiction;intro hn;dsimp only at h1;rw [if_neg hn] at h1;exact h1 rfl
   obtain⟨z,B⟩:=zgo b;obtain⟨i,y⟩:=zcT z B;obtain⟨v,j,f,⟨r,C⟩,-⟩:=ziC b;have d:wl (zaq [t] a)=v:=by rw [j];exact wl_wstr fun l hl=>(f l hl).1
   refine⟨zcQ i L,by dsimp only;have:=restB_len (x:=zaq [t] a) L;simp at y;omega,?_⟩;dsimp only;rw [zhj i,d,u,C,c];decide
  ·rename_i b;rw [if_neg b] at h0;exact absurd rfl h0
theorem Dec.run (h:Dec s p L D)(hs:zk s=jU)(hp:zj p=jU)(h64:L<64) :
  ∀ (g k:Nat) (rs cs:List ByteArray),LnOk L (zu s p L) k (fU (rs,cs))->cs.length<=rs.length->12<=g+k->(runT s t p L g k (fU (rs,cs))).code≠2:=by
 intro g
 induction g with
 |zero =>
  intro k rs cs ho hc hg;have c:=(ho.tab rs cs rfl).1.r12;have q:=ho.more rs cs rfl;omega
 |succ g ih =>
  intro k rs cs ho hc hg;obtain⟨d,a⟩:=ho.tab rs cs rfl;rw [runT];split
  ·intro e;cases e
  ·rename_i h0;split
   ·intro e;cases e
   ·rename_i c;obtain⟨l,m,n⟩:=judge_wrong hs hp (zcS d a h64) rfl h0 c;obtain⟨o,i,j,b⟩:=h.ar d a hc l m n;have f:=ho.ar (zaM s p t L (zcM L (zu s p L) rs cs)).1;rw [j] at f ⊢;exact ih _ _ _ f b oM
theorem Dec.verdict (h:Dec s p L D)(hi:iface s p t=(L:Int)):((vpT s t p).code=0/\zaE [s,t] p=jU)\/((vpT s t p).code=1/\zaE [s,t] p=j1):=by
 obtain⟨i,j,k⟩:=zbo (s:=s) (p:=p) (t:=t) oM;have b:=vpT_ok hi;have f:(vpT s t p).code≠2:=by
  rw [zif hi];have a:=LnOk.start L (zu s p L);obtain⟨r,hr⟩:=zhG L (zu s p L);rw [hr] at a ⊢;exact h.run i j (iface_lt hi) 12 0 r [⟨#[]⟩] a (a.tab r _ rfl).1.r1 oM
 rcases b.code with c|d|g
 ·exact .inl ⟨c,zgA (vpT_fault c)⟩
 ·exact .inr ⟨d,(b.fails d).1⟩
 ·exact absurd g f
theorem Dec.fault (h:Dec s p L D)(hi:iface s p t=(L:Int)):(zer s t p D=0/\(vpT s t p).code=0)\/(zer s t p D=4/\(vpT s t p).code=1):=by
 obtain⟨o,u,q⟩:=zbo (s:=s) (p:=p) (t:=t) oM;have B:L=(s.al.toNat|||p.al.toNat)&&&t.al.toNat:=by
  have:=zdJ o u q;rw [hi] at this;exact Int.ofNat.inj this
 have d:D.al.toNat=L:=by rw [h.al];rfl
 have r:∀ v,zal D 0 (v.filter fun l=>L.testBit l)=zal D 0 v:=fun v=>by rw [<- d];exact zhK D v 0
 have j:zbk s D p=jU:=by
  refine ziP.2 ⟨⟨o,h.valid,u⟩,fun v hv hr ha=>?_⟩;cases hb:zat p (zal p 0 v)
  ·have b:zgV L (v.filter fun l=>L.testBit l):=fun l hl=>by
    obtain⟨g,c⟩:=kL.1 hl;exact⟨(hv l g).1,c⟩
   rw [<- r] at ha;have f:=(h.ok _ b).1 ha _ (dD _);rw [eJ] at f;refine absurd ((bad_iff b).2 ⟨v,fun l hl=>?_,rfl,hr,hb⟩) f;obtain⟨g,c⟩:=hv l hl;rw [fX,d] at c;exact⟨g,by simpa using c⟩
  ·rfl
 have m:zE [s,t]=jU:=zeS sM sM (by simp [o,q]);have n:zE [t]=jU:=zeS sM sM (by simp [q]);have i:zaE [s,t] p=jU->zaE [t] D=jU:=by
  intro hk;refine zeP.2 ⟨⟨n,h.valid⟩,fun v hv hr=>?_⟩;cases hb:zat D (zal D 0 v)
  ·have b:zgV L (v.filter fun l=>L.testBit l):=fun l hl=>by
    obtain⟨g,c⟩:=kL.1 hl;exact⟨(hv l g).1,c⟩
   have k:¬ SafeW s p L (v.filter fun l=>L.testBit l):=by
    rw [<- h.ok _ b,r,hb];decide
   have:=zgj (x:=s) (ts:=[t]) (p:=p) (by rw [B];simp [zG]) m hv hr k;rw [hk] at this;cases this
  ·rfl
 have a:∀ e,zaE [t] D=e->zer s t p D=if e=jU then 0 else 4:=by
  intro e he;unfold zer;rw [if_neg (by rw [h.valid];simp;omega),if_neg (by rw [h.al,hi];simp),j,he];cases e<;>simp
 rcases h.verdict hi with ⟨y,hk⟩|⟨z,hk⟩
 ·exact .inl ⟨by rw [a jU (i hk)];rfl,y⟩
 ·refine .inr ⟨?_,z⟩;cases hk2:zaE [t] D
  ·rw [a j1 hk2];rfl
  ·have:=zgA (a jU hk2);rw [hk] at this;cases this
end
theorem mask_of (P:Nat->Prop):∀ n,∃ x,x<2 ^ n/\∀ q,x.testBit q=jU↔q<n/\P q:=by
 intro n
 induction n with
 |zero=>exact⟨0,dM,fun q=>sM⟩
 |succ n ih =>
  obtain⟨x,f,c⟩:=ih;have d:x<2 ^ (n+1):=Nat.lt_of_lt_of_le f (eD dM (Nat.le_succ n))
  by_cases hP:P n
  ·refine⟨x|||2 ^ n,Nat.or_lt_two_pow d (Nat.pow_lt_pow_right dM (Nat.lt_succ_self n)),fun q=>?_⟩;rw [fX,Bool.or_eq_true,c,Nat.testBit_two_pow];constructor
   ·rintro (⟨a,b⟩|e)
    ·exact⟨oM,b⟩
    ·have e:n=q:=by simpa using e
     subst e;exact⟨oM,hP⟩
   ·rintro ⟨a,b⟩;rcases dX (eF a) with h|rfl
    ·exact .inl ⟨h,b⟩
    ·exact .inr sM
  ·refine⟨x,d,fun q=>?_⟩;rw [c];constructor
   ·rintro ⟨a,b⟩;exact⟨oM,b⟩
   ·rintro ⟨a,b⟩;rcases dX (eF a) with h|rfl
    ·exact⟨h,b⟩
    ·exact absurd b hP
theorem stand_of (B:Nat->Nat->Prop)(hB:∀ q i,B q i->q<16/\i<12):∃ T,zaP T 12 B:=by
 have a:=fun i=>Classical.choose_spec (mask_of (fun q=>B q i) 16);refine⟨(eT 12).map fun i=>Classical.choose (mask_of (fun q=>B q i) 16),sM,fun x hx=>?_,fun i q=>?_⟩
 ·obtain⟨i,-,rfl⟩:=kC.1 hx;exact (a i).1
 ·unfold zdx
  by_cases hi:i<12
  ·rw [dE,dO,List.getElem?_range hi,gX,eL,(a i).2 q];exact⟨fun h=>h.2,fun h=>⟨(hB q i h).1,h⟩⟩
  ·rw [dE,dV (by simp;omega),Option.getD_none,Nat.zero_testBit];exact⟨fun h=>(by cases h),fun h=>absurd (hB q i h).2 hi⟩
theorem zaP.uniq {B:Nat->Nat->Prop}(h:zaP T 12 B) (k:zaP U 12 B):T=U:=by
 refine List.ext_getElem (by rw [h.1,k.1]) fun i h1 h2=>Nat.eq_of_testBit_eq fun q=>?_;have a:=h.2.2 i q;have b:=k.2.2 i q;unfold zdx at a b;rw [dE,dB h1,eL] at a;rw [dE,dB h2,eL] at b;rw [gJ,a,b]
theorem bit16 (hx:x<65536)(h:x.testBit q=jU):q<16:=by
 apply Classical.byContradiction;intro hn;have a:2 ^ q<=x:=Nat.ge_two_pow_of_testBit h;have b:2 ^ 16<=2 ^ q:=eD dM oM;omega
theorem cho16 (hs:Sml s){q':Nat}(hq:q<16)(h:q'∈cho s q l):q'<16:=by
 cases hb:s.al.toNat.testBit l
 ·unfold cho at h;rw [hb] at h;simp at h;omega
 ·have:=(zgf hs hb (2 ^ q) q').2 ⟨q,sM,h⟩;exact bit16 (zeW hs _ _) this
section
variable {s:Sys}{p:Aut}{L:Nat}
theorem cl16 (hs:Sml s){B:Nat->Nat->Prop}(hB:∀ q i,B q i->q<16){i:Nat}(h:Cl s p L B q i):q<16:=by
 induction h with
 |base h=>exact hB _ _ h
 |hid _ _ hq ih=>exact cho16 hs ih hq
theorem lead_ex (hs:Sml s)(hp:zj p=jU) (hl:l<6) (hT:WS p T):∃ U,Lead s p L l T U:=by
 have c:=(zl hp).2.1;refine stand_of _ fun q i h=>⟨cl16 hs (fun q i hb=>?_) h,?_⟩
 ·obtain⟨f,b,a,d,-⟩:=hb;exact cho16 hs (bit16 (zbC hT.lt b) a) d
 ·have:=ziD hp (fun q i ⟨_,b,a,_,h3⟩=>by rw [h3];exact zdE hp (hT.row _ _ a) hl) h;omega
theorem start_ex (hs:Sml s)(hp:zj p=jU):∃ U,zaP U 12 (PR s p L []):=by
 have a:=(zl hp).2.1;rw [PR_nil];refine stand_of _ fun q i h=>⟨cl16 hs (fun q i hb=>oM) h,?_⟩;have:=ziD hp (fun q i ⟨_,h3⟩=>by rw [h3];omega) h;omega
noncomputable def wkD (s:Sys) (p:Aut) (L:Nat) (x:Option (List Nat)) (l:Nat):Option (List Nat):=by
 classical exact match x with
 |none=>fV
 |some T=>if h:∃ U,Lead s p L l T U then (if zgY p (Classical.choose h)=jU then fV else fU (Classical.choose h)) else fV
noncomputable def wk0 (s:Sys) (p:Aut) (L:Nat):Option (List Nat):=by
 classical exact if h:∃ U,zaP U 12 (PR s p L []) then (if zgY p (Classical.choose h)=jU then fV else fU (Classical.choose h)) else fV
theorem wkD_none (l:Nat):wkD s p L fV l=fV:=rfl
theorem wkD_lead (h:Lead s p L l T U):wkD s p L (fU T) l=if zgY p U=jU then fV else fU U:=by
 have a:∃ U,Lead s p L l T U:=⟨U,h⟩;have e:Classical.choose a=U:=zaP.uniq (Classical.choose_spec a) h;unfold wkD;dsimp only;rw [dif_pos a,e]
theorem wk0_start (h:zaP U 12 (PR s p L [])):wk0 s p L=if zgY p U=jU then fV else fU U:=by
 have a:∃ U,zaP U 12 (PR s p L []):=⟨U,h⟩;have e:Classical.choose a=U:=zaP.uniq (Classical.choose_spec a) h;unfold wk0;rw [dif_pos a,e]
theorem wk_run (hs:Sml s)(hp:zj p=jU):∀ (n:Nat) (v:List Nat),v.length=n->zgV L v ->
  (∃ T,v.foldl (wkD s p L) (wk0 s p L)=fU T/\zaP T 12 (PR s p L v)/\WS p T/\SafeW s p L v)\/(v.foldl (wkD s p L) (wk0 s p L)=fV/\¬ SafeW s p L v):=by
 intro n
 induction n with
 |zero =>
  intro v hl _;obtain rfl:=dP hl;obtain⟨U,a⟩:=start_ex (L:=L) hs hp;have b:=zfF a;have o:=(zl hp).2.1;rw [List.foldl_nil,wk0_start a]
  by_cases h:zgY p U=jU
  ·rw [if_pos h];exact .inr ⟨rfl,fun hsf=>hsf 0 (dF _) (b.1 h)⟩
  ·rw [if_neg h];refine .inl ⟨U,rfl,a,start_ws a hp oM,fun k hk hbad=>h (b.2 ?_)⟩;rwa [List.take_nil] at hbad
 |succ n ih =>
  intro v hl hov;rcases zZ v with rfl|⟨u,l,rfl⟩
  ·simp at hl
  have i:u.length=n:=by simpa using hl
  obtain⟨m,-⟩:=hov l sM;have d:∀ k,k<=u.length->(u++[l]).take k=u.take k:=fun k hk=>List.take_append_of_le_length hk;rw [List.foldl_append,iF,List.foldl_nil];rcases ih u i (fun k hk=>hov k (by simp [hk])) with ⟨T,f,g,j,q⟩|⟨f,g⟩
  ·rw [f];obtain⟨U,a⟩:=lead_ex (L:=L) hs hp m j;have c:=a.pr g;have b:=zfF c;rw [wkD_lead a]
   by_cases h:zgY p U=jU
   ·rw [if_pos h];refine .inr ⟨rfl,fun hsf=>hsf (u++[l]).length (dD _) ?_⟩;rw [eJ];exact b.1 h
   ·rw [if_neg h];refine .inl ⟨U,rfl,c,a.ws hp m j,fun k hk hbad=>?_⟩;rw [dK,dU] at hk;rcases dX hk with hk|rfl
    ·rw [d k oM] at hbad;exact q k oM hbad
    ·rw [dJ sM] at hbad;exact h (b.2 hbad)
  ·rw [f,wkD_none];refine .inr ⟨rfl,fun hsf=>g fun k hk hbad=>hsf k (by simp;omega) ?_⟩;rw [d k hk];exact hbad
def wkA (L:Nat) (xs:List (Option (List Nat))) (rows:List (List Int)):Aut:=⟨(L:Int),rows,xs.map Option.isSome⟩
theorem wkA_run {xs:List (Option (List Nat))}(h:NbI (wkD s p L) (letters L 6) (wk0 s p L) xs rows [])(hr:rows.length=xs.length) :
  ∀ (n:Nat) (v:List Nat),v.length=n->zgV L v->xs[zal (wkA L xs rows) 0 v]?=fU (v.foldl (wkD s p L) (wk0 s p L)):=by
 intro n
 induction n with
 |zero =>
  intro v hl _;obtain rfl:=dP hl;exact h.x0
 |succ n ih =>
  intro v hl hov;rcases zZ v with rfl|⟨u,l,rfl⟩
  ·simp at hl
  obtain⟨i,b⟩:=hov l sM;have a:=ih u (by simpa using hl) (fun k hk=>hov k (by simp [hk]));rw [zaN,List.foldl_append,iF,List.foldl_nil];generalize zal (wkA L xs rows) 0 u=q at *;have j:=(j9.1 a).1;obtain⟨r,c,-,d⟩:=h.done q _ oM a;obtain⟨m,f,g⟩:=d _ l (zed b 6 i);have e:aGo (wkA L xs rows) q l=m:=by
   unfold aGo wkA;simp only [eM];rw [if_pos b,dE,dE,c,eL,f,eL,eM]
  rw [e];exact g
theorem wkA_acc (hs:Sml s)(hp:zj p=jU){xs:List (Option (List Nat))}(h:NbI (wkD s p L) (letters L 6) (wk0 s p L) xs rows [])(hr:rows.length=xs.length){v:List Nat}(hv:zgV L v) :
  zat (wkA L xs rows) (zal (wkA L xs rows) 0 v)=jU↔SafeW s p L v:=by
 have c:=wkA_run h hr _ v rfl hv;have e:zat (wkA L xs rows) (zal (wkA L xs rows) 0 v)=(v.foldl (wkD s p L) (wk0 s p L)).isSome:=by
  generalize zal (wkA L xs rows) 0 v=q at *;unfold zat wkA;dsimp only;rw [dE,dO,c];rfl
 rw [e];rcases wk_run (L:=L) hs hp _ v rfl hv with ⟨T,a,-,-,b⟩|⟨a,b⟩
 ·rw [a];exact⟨fun _=>b,fun _=>rfl⟩
 ·rw [a];exact⟨fun h=>(by cases h),fun h=>absurd h b⟩
theorem dec_of (hs:Sml s)(hp:zj p=jU){xs:List (Option (List Nat))}(h:NbI (wkD s p L) (letters L 6) (wk0 s p L) xs rows [])(hr:rows.length=xs.length){D:Aut}(hD:zj D=jU)(hal:D.al=(L:Int))
  (he:∀ v,zgV L v->zat D (zal D 0 v)=zat (wkA L xs rows) (zal (wkA L xs rows) 0 v)):Dec s p L D:=
 ⟨hD,hal,fun v hv=>by rw [he v hv];exact wkA_acc hs hp h hr hv⟩
end
def RetIx (xs:List Int) (v:Int) (w:jX) (e:Ending) (w':jX):Prop:=∃ r:Int,e=j5 (.int iX r)/\decide (0<=r)=decide (v∈xs)/\w=w'
section
variable {w:jX}{base n c:Nat}{A:Option Addr}{xs:List Int}{v:Int}
theorem index_int (h:w.ownsRow base 3 1 (fC A n c) n (ints xs)) :
  j6 j3 199 #[fC A n c,v] w (RetIx xs v w):=by
 have l:=za (show n=xs.length by have:=zcE h;simp [ints] at this;omega);have H:=za h;have o:=(eE h).2.1;clear h
 go_enter Tryz.func199,Tryz.ntmps199
 go_wp2_with fail
 go_loopw [5,8] (fun _ i wr=>∃ k:Nat,i=.int iX k/\k<=n/\Hid (∀ j,j<k->xs[j]?≠fU v)/\w=wr) (fun _ i _=>n - (intOf i).toNat)
 case atStart=>exact⟨0,rfl,dF _,(show Hid _ from fun j a=>oM),rfl⟩
 case round =>
  obtain⟨k,rfl,hk,d,rfl⟩:=hrel
  by_cases hlt:k<n
  ·have m:(k:Int)<(n:Int):=oM;obtain⟨g,rfl,-,-⟩:=zM H.out oM;obtain⟨y,hy⟩:∃ y,xs[k]?=fU y:=⟨_,dB (oH l.out)⟩;have q:=zgr H.out hy
   by_cases e:v=y
   ·subst e;have b:=za (show RetIx xs v w (j5 (.int iX (k:Int))) w from ⟨k,rfl,by rw [decide_eq_true (show (0:Int)<=(k:Int) by omega),decide_eq_true (dC hy)],rfl⟩);clear hy;go_wp2_with fail
    go_ret;exact b.out
   ·have f:=za (show ∀ j,j<k+1->xs[j]?≠fU v from fun j a=>by
     rcases dX (eF a) with p|rfl
     ·exact d.out j p
     ·rw [hy];exact fun h=>e (j8 h).symm)
    clear hy;go_wp2_with fail
    go_roundw
    case rel=>exact⟨k+1,gM,oM,f,trivial⟩
    case measure=>exact uM
  ·have b:=za (show RetIx xs v w (j5 (.int iX (-1))) w from ⟨-1,rfl,by
    rw [decide_eq_false oM,decide_eq_false];intro b;obtain⟨j,a⟩:=dY b;exact d.out j (by have:=(j9.1 a).1;have:=l.out;omega) a,rfl⟩)
   go_wp2_with fail
   go_ret;exact b.out
theorem zgz (h:w.ownsRow base 3 1 (fC A n c) n (ints xs)) :
  j6 j3 110 #[fC A n c,v] w fun e w'=>e=j5 (.bool (decide (v∈xs)))/\w=w':=by
 go_enter Tryz.func110,Tryz.ntmps110
 go_wp2_with (go_at_call 199;refine (index_int h).mono ?_;rintro e a ⟨r,rfl,hr,rfl⟩)
 go_ret;exact⟨by rw [<- hr];rfl,rfl⟩
end
noncomputable def wkF (Ts:List (List Nat)) (n:Int):Option (Option (List Nat)):=if n = -1 then fU fV else if 0<=n then (Ts[n.toNat]?).map fU else fV
section
variable {Ts Us:List (List Nat)}{n:Int}{x:Option (List Nat)}
theorem zke:wkF Ts (-1)=fU fV:=by unfold wkF;rw [if_pos rfl]
theorem wkF_nat (h:Ts[j]?=fU T):wkF Ts (j:Int)=fU (fU T):=by
 unfold wkF;rw [if_neg oM,if_pos oM,eM,h];rfl
theorem zdW (h:wkF Ts n=fU x):(n = -1/\x=fV)\/∃ (j:Nat) (T:List Nat),n=(j:Int)/\Ts[j]?=fU T/\x=fU T:=by
 unfold wkF at h
 by_cases e:n = -1
 ·rw [if_pos e] at h;exact .inl ⟨e,(j8 h).symm⟩
 ·rw [if_neg e] at h
  by_cases e2:0<=n
  ·rw [if_pos e2] at h;obtain⟨T,a,rfl⟩:=kK.1 h;exact .inr ⟨n.toNat,T,oM,a,rfl⟩
  ·rw [if_neg e2] at h;cases h
theorem wkF_sub (h:∀ (i:Nat) (U:List Nat),Ts[i]?=fU U->Us[i]?=fU U):SubF (wkF Ts) (wkF Us):=by
 intro n x hx;rcases zdW hx with ⟨rfl,rfl⟩|⟨j,T,rfl,a,rfl⟩
 ·exact zke
 ·exact wkF_nat (h j T a)
end
def WkK (F:Sfx) (g:Nat) (f:Int->Option (Option (List Nat))):zbi:=fun B W S=>∃ (Ts:List (List Nat)) (nx:Nat->Nat->Int) (k:Nat) (M:List Nat->Option Nat) (vs vn vu:Value),
 SfI F.s F.p F.L Ts nx/\zeL F Ts nx k M vs vn vu W/\(Ts.length<=B+1/\Ts.length<=1000000)/\Blk W g 144 #[kB (fU ⟨F.G,0,fV⟩)]/\F.w9.heap.size<=g/\f=wkF Ts/\S=fun q=>sfS F vs vn vu q\/q=g
section
variable {F:Sfx}{g:Nat}{f:Int->Option (Option (List Nat))}
theorem WkK.ok (hF:zij F) (g:Nat) (f:Int->Option (Option (List Nat))):zbi.Ok F.lo (WkK F g f) where
 lt:=fun ⟨_,_,_,_,_,_,_,_,h,_,hb,_,_,e⟩ j hj=>by
  subst e
  rcases hj with hj|rfl
  ·exact h.lt hj
  ·exact hb.lt
 low:=fun ⟨_,_,_,_,_,_,_,_,h,_,hb,hg,_,e⟩ j hj=>by
  subst e
  rcases hj with hj|rfl
  ·exact h.low hF hj
  ·have:=hF.lob;have:=hF.b0G;have:=hF.Gw;omega
 keep:=fun ⟨Ts,nx,k,M,vs,vn,vu,hI,h,hl,hb,hg,hf',e⟩ hf hT=>by
  subst e
  exact⟨Ts,nx,k,M,vs,vn,vu,hI,h.frmT hF hf (fun j hj ht=>⟨(hT j hj ht).1,fun hs=>(hT j hj ht).2 (.inl hs)⟩),hl,hb.frm hf (fun ht=>(hT g hb.lt ht).2 (.inr rfl)),hg,hf',rfl⟩
 more:=fun ⟨Ts,nx,k,M,vs,vn,vu,hI,h,hl,hb,hg,hf',e⟩ hBC=>⟨Ts,nx,k,M,vs,vn,vu,hI,h,⟨oM,hl.2⟩,hb,hg,hf',e⟩
theorem WkK.inj {B:Nat}(h:WkK F g f B W S) (n m:Int) (x:Option (List Nat))(hn:f n=fU x)(hm:f m=fU x):n=m:=by
 obtain⟨o,u,k,M,y,v,z,p,i,s,q,r,rfl,e⟩:=h;rcases zdW hn with ⟨rfl,rfl⟩|⟨j,T,rfl,b,rfl⟩<;>rcases zdW hm with ⟨rfl,c⟩|⟨t,l,rfl,d,a⟩
 ·rfl
 ·cases a
 ·cases c
 ·obtain rfl:=j8 a;rw [i.num.uniq b d]
theorem WkK.dom {B:Nat}(h:WkK F g f B W S) (n:Int) (x:Option (List Nat))(hn:f n=fU x):domZ n:=by
 obtain⟨b,o,k,M,q,p,r,c,d,m,i,l,rfl,e⟩:=h;unfold domZ;rcases zdW hn with ⟨rfl,-⟩|⟨j,T,rfl,a,-⟩
 ·omega
 ·have:=(j9.1 a).1;omega
theorem wk_step (hF:zij F){B:Nat}{n:Int}{x:Option (List Nat)}(hK:WkK F g f B W S)(hB:B<100000)(hn:f n=fU x)(hl:l<6) :
  j6 j3 107 (#[.int iX n,.int iX (l:Nat)]++#[kB (fU g)]) W (zfn (WkK F g) (wkD F.s F.p F.L) f B S W x l):=by
 have HF:=za hF;have HK:=za hK;obtain⟨J,nx,k,M,G,D,I,O,u,m,t,hg,rfl,rfl⟩:=hK;show j6 j3 107 #[n,.int iX (l:Nat),kB (fU g)] W _;rcases zdW hn with ⟨rfl,rfl⟩|⟨j,T,rfl,hT,rfl⟩
 ·have a:=za (show zfn (WkK F g) (wkD F.s F.p F.L) (wkF J) B (fun q=>sfS F G D I q\/q=g) W fV l (j5 (.int iX (-1))) W from
   ⟨wkF J,-1,_,rfl,SubF.refl _,by rw [wkD_none];exact zke,(Kp.refl HK.out).more (WkK.ok HF.out g _) oM⟩)
  clear O u m t hg hF HK
  go_enter Tryz.func107,Tryz.ntmps107
  go_wp2_with fail
  go_ret;exact a.out
 ·have HI:=za O;have HM:=za u;have HT:=za hT;have Hb:=za t;have Q:=za (show ¬ sfS F G D I g from fun r=>by
   rcases r with r|r|r|r
   ·omega
   ·exact zL u.sets t dM r rfl
   ·exact zL u.next t dM r rfl
   ·exact zL u.uns t dM r rfl)
  have cb:=t.cell;have ax:¬ ((j:Int) = -1):=oM;have aj:=m.1;have ak:=m.2;clear O u hT t hn hF m
  go_enter Tryz.func107,Tryz.ntmps107
  go_upto_region 3 with (go_at_call 108;refine (sf_after HF.out HM.out HI.out HT.out hl oM).mono ?_;rintro e w1 ⟨i,c,Z,k2,M2,H,E,aB,V,rfl,U,i2,X,z,Y,v,C⟩)
  have y:=Hb.out.frm C.frm Q.out;have ar:=y.cell;obtain⟨Au,nu,rfl⟩:=zh v.uns;obtain⟨gu,rfl,-,cu⟩:=v.bad z;have kG:=v.blk.cell;simp only [sfC] at kG;have aw:i<c.length:=(j9.1 z).1;have ai:(i:Int)<(c.length:Int):=oM;have av:¬ ((i:Int) = -1):=oM;have d:Kp (WkK F g (wkF c)) (B+1) (fun q=>sfS F G D I q\/q=g) W w1 (fun q=>sfS F H E (fC (fU gu) c.length nu) q\/q=g):=
   ⟨⟨c,Z,k2,M2,H,E,_,U,v,⟨oM,oM⟩,y,hg,rfl,rfl⟩,C.frm.mono (fun q _ h=>.inl h),fun q R=>by
    rcases R with R|rfl
    ·rcases C.new q R with h|h
     ·exact .inl (.inl h)
     ·exact .inr h
    ·exact .inl (.inr rfl)⟩
  have b:=wkF_sub X;have o:=wkD_lead Y;cases hbad:zgY F.p V with
  |true =>
   rw [hbad] at o cu;rw [if_pos rfl] at o;have a:=za (show zfn (WkK F g) (wkD F.s F.p F.L) (wkF J) B (fun q=>sfS F G D I q\/q=g) W (fU T) l (j5 (.int iX (-1))) w1 from ⟨_,-1,_,rfl,b,by rw [o];exact zke,d⟩);clear d b o U i2 X z Y v C hbad cb;go_wp2_with fail
   go_ret;exact a.out
  |false =>
   rw [hbad] at o cu;rw [if_neg dM] at o;have a:=za (show zfn (WkK F g) (wkD F.s F.p F.L) (wkF J) B (fun q=>sfS F G D I q\/q=g) W (fU T) l (j5 (.int iX (i:Int))) w1 from ⟨_,(i:Int),_,rfl,b,by rw [o];exact wkF_nat z,d⟩);clear d b o U i2 X z Y v C hbad cb;go_wp2_with fail
   go_ret;exact a.out
end
theorem nb_fit {α:Type}{D:α->Nat->α}{x0:α}{xs:List α}{acc:List Bool}(h:NbI D (letters L 6) x0 xs rows [])(hr:rows.length=xs.length)(hL:L<64)(hx:xs.length<=N)(ha:acc.length=xs.length):Fit N ⟨(L:Int),rows,acc⟩:=by
 have p:1<=xs.length:=by have:=(j9.1 h.x0).1;omega
 refine⟨by show 0<=(L:Int)/\(L:Int)<=63;omega,by show 1<=rows.length/\rows.length<=N;omega,by show acc.length=rows.length;omega,fun j row hj=>?_⟩;have a:=(j9.1 hj).1;obtain⟨x,hx⟩:∃ x,xs[j]?=fU x:=⟨_,dB (by rw [<- hr];exact a)⟩;obtain⟨r,d,f,i⟩:=h.done j x a hx;have b:rows[j]?=fU row:=hj;rw [b] at d;obtain rfl:=j8 d;refine⟨f,fun q hq=>?_⟩;obtain⟨k,hk⟩:=dY hq;have c:=(j9.1 hk).1;obtain⟨l,o⟩:∃ l,(letters L 6)[k]?=fU l:=⟨_,dB (by rw [<- f];exact c)⟩;obtain⟨m,g,n⟩:=i k l o;rw [hk] at g;obtain rfl:=j8 g;have:=(j9.1 n).1;show 0<=(m:Int)/\(m:Int)<rows.length;omega
structure HomA (p q:Aut) (f:Nat->Nat):Prop where
 al:q.al=p.al
 zero:f 0=0
 go:∀ i l,i<p.next.length->l<6->f (aGo p i l)=aGo q (f i) l
 acc:∀ i,i<p.next.length->zat q (f i)=zat p i
section
variable {p q r:Aut}{f:Nat->Nat}
theorem HomA.run (h:HomA p q f)(hp:Fit N p):∀ (n:Nat) (v:List Nat),v.length=n->(∀ l∈v,l<6)->f (zal p 0 v)=zal q 0 v:=by
 intro n
 induction n with
 |zero =>
  intro v hv _;obtain rfl:v=[]:=List.length_eq_zero_iff.1 hv;exact h.zero
 |succ n ih =>
  intro v hv hl;obtain⟨u,l,rfl⟩:∃ u l,v=u++[l]:=⟨v.dropLast,v.getLast (by intro e;rw [e] at hv;simp at hv),(List.dropLast_concat_getLast _).symm⟩;have a:∀ x∈u,x<6:=fun x hx=>hl x (by simp [hx]);have b:0<p.next.length:=oH hp.row.2.1;rw [zaN,zaN,h.go _ _ (zeU hp a b) (hl l sM),ih u (by simpa using hv) a]
theorem HomA.accF (h:HomA p q f)(hp:Fit N p){v:List Nat}(hv:∀ l∈v,l<6):zat p (zal p 0 v)=zat q (zal q 0 v):=by
 have a:0<p.next.length:=oH hp.row.2.1;rw [<- h.run hp _ v rfl hv,h.acc _ (zeU hp hv a)]
end
def quoA (a:Aut) (c:Nat->Nat) (rs:List Nat):Aut:=⟨a.al,rs.map fun q=>(a.next.getD q []).map fun x=>(c x.toNat:Int),rs.map (zat a)⟩
structure Stb (a:Aut) (c:Nat->Nat) (rs:List Nat):Prop where
 zero:c 0=0
 rep:∀ q,q<a.next.length->∃ r,rs[c q]?=fU r/\r<a.next.length/\c r=c q
 acc:∀ q r,q<a.next.length->r<a.next.length->c q=c r->zat a q=zat a r
 go:∀ q r k,q<a.next.length->r<a.next.length->c q=c r->c ((a.next.getD q []).getD k 0).toNat=c ((a.next.getD r []).getD k 0).toNat
theorem getD_map {α β:Type}(f:α->β) (l:List α) (k:Nat) (d:α):(l.map f).getD k (f d)=f (l.getD k d):=by
 rw [dE,dE,dO];cases l[k]?<;>rfl
section
variable {a:Aut}{c:Nat->Nat}{rs:List Nat}
theorem Stb.hom (h:Stb a c rs):HomA a (quoA a c rs) c:=by
 refine⟨rfl,h.zero,fun i l hi hl=>?_,fun i hi=>?_⟩
 ·obtain⟨r,b,d,f⟩:=h.rep i hi;unfold aGo;show (c (if a.al.toNat.testBit l=jU then _ else i))=if a.al.toNat.testBit l=jU then (((rs.map fun q=>(a.next.getD q []).map fun x=>(c x.toNat:Int)).getD (c i) []).getD (place a.al.toNat l) 0).toNat else c i
  by_cases hb:a.al.toNat.testBit l=jU
  ·rw [if_pos hb,if_pos hb];have g:(rs.map fun q=>(a.next.getD q []).map fun x=>(c x.toNat:Int)).getD (c i) []=(a.next.getD r []).map fun x=>(c x.toNat:Int):=by
    rw [dE,dO,b];rfl
   have j:((a.next.getD r []).map fun x=>(c x.toNat:Int)).getD (place a.al.toNat l) 0=(c ((a.next.getD r []).getD (place a.al.toNat l) 0).toNat:Int):=by
    have:=getD_map (fun x:Int=>(c x.toNat:Int)) (a.next.getD r []) (place a.al.toNat l) 0;simp only [Int.toNat_zero,h.zero] at this;exact this
   rw [g,j,eM];exact h.go i r _ hi d f.symm
  ·rw [if_neg hb,if_neg hb]
 ·obtain⟨r,b,d,f⟩:=h.rep i hi;show (rs.map (zat a)).getD (c i) j1=_;rw [dE,dO,b];exact h.acc r i d hi f
end
section
variable {a t:Aut}{c:Nat->Nat}{rs xs:List Nat}{N:Nat}
theorem Stb.fit (h:Stb a c rs)(ha:Fit N a)(hf:rs.length<=a.next.length)(hr:∀ r∈rs,r<a.next.length):Fit N (quoA a c rs):=by
 obtain⟨⟨g,i⟩,⟨s,o⟩,-,b⟩:=ha.row;have j:1<=rs.length:=by
  obtain⟨r,d,-⟩:=h.rep 0 oM;have:=(j9.1 d).1;omega
 unfold Fit quoA;simp only [dQ];refine⟨⟨g,i⟩,⟨j,oM⟩,trivial,fun q row hrow'=>?_⟩;rw [dO] at hrow';obtain⟨r,n,rfl⟩:=kK.1 hrow';have f:=hr r (dC n);have m:a.next[r]?=fU (a.next.getD r []):=by
  rw [dE,dB f];rfl
 obtain⟨d,k⟩:=b r _ m;rw [dQ];refine⟨d,fun y hy=>?_⟩;obtain⟨x,hx,rfl⟩:=kC.1 hy;have p:=k x hx;obtain⟨t,l,-⟩:=h.rep x.toNat oM;have:=(j9.1 l).1;omega
theorem Stb.minF (h:Stb a c rs)(ha:Fit N a)(ht:zev (quoA a c rs) t xs){v:List Nat}(hv:∀ l∈v,l<6):zat t (zal t 0 v)=zat a (zal a 0 v):=
 (ht.acc_run hv).trans (h.hom.accF ha hv).symm
end
def ctn (c:Nat->Nat):Nat->Nat
 |0=>0
 |k+1=>max (ctn c k) (c k+1)
def FO (c:Nat->Nat) (n:Nat):Prop:=∀ k,k<n->c k<=ctn c k
section
variable {c d:Nat->Nat}{n:Nat}
theorem ziG (c:Nat->Nat) :∀ {k:Nat},j<k->c j<ctn c k
 |0,h=>oM
 |k+1,h=>by
  unfold ctn
  rcases dX (eF h) with h1|rfl
  ·have:=ziG c h1
   omega
  ·omega
theorem fo_hit (h:FO c n) :∀ {k:Nat},k<=n->x<ctn c k->∃ j,j<k/\c j=x
 |0,_,hx=>by simp [ctn] at hx
 |k+1,hk,hx=>by
  unfold ctn at hx
  by_cases h1:x<ctn c k
  ·obtain⟨j,h2,h3⟩:=fo_hit h oM h1
   exact⟨j,oM,h3⟩
  ·have:=h k oM
   exact⟨k,oM,oM⟩
theorem fo_step (hc:FO c n)(hd:FO d n)(hr:∀ q r,q<n->r<n->d q=d r->c q=c r) (hk:k<n) :
  ctn c (k+1)+ctn d k<=ctn d (k+1)+ctn c k/\(d k<ctn d k->c k<ctn c k):=by
 have g:=hc k hk;have i:=hd k hk
 by_cases hlt:d k<ctn d k
 ·obtain⟨j,f,e⟩:=fo_hit hd oM hlt;have b:=hr j k oM hk e;have a:=ziG c f;rw [b] at a;refine⟨?_,fun _=>a⟩;simp only [ctn];omega
 ·refine⟨?_,fun h=>absurd h hlt⟩;simp only [ctn];omega
theorem yW17a2 {P:Prop}(h:P:=by
 intro k
 induction k with
 |zero=>intro _;exact Nat.le_refl _
 |succ k ih =>
  intro hk;have:=ih oM;have:=(fo_step hc hd hr (k:=k) oM).1;omega
 ):P:=h
theorem fo_eq (hc:FO c n)(hd:FO d n)(hr:∀ q r,q<n->r<n->d q=d r->c q=c r)(he:ctn d n=ctn c n):∀ k,k<n->d k=c k:=by
 have h:∀ k,k<=n->ctn c k<=ctn d k:=by
  exact yW17a2
 have a:∀ i k,k+i=n->ctn d k<=ctn c k:=by
  intro i
  induction i with
  |zero=>
   intro k hk;obtain rfl:k=n:=oM
   omega
  |succ i ih =>
   intro k hk;have:=ih (k+1) oM;have:=(fo_step hc hd hr (k:=k) oM).1;omega
 have b:∀ k,k<=n->ctn d k=ctn c k:=fun k hk=>Nat.le_antisymm (a (n - k) k oM) (h k hk);intro k
 induction k using Nat.strongRecOn with
 |ind k ih =>
  intro hk;have m:=hc k hk;have o:=hd k hk;have l:=b k oM;have f:=b (k+1) oM
  by_cases hlt:d k<ctn d k
  ·obtain⟨j,g,e⟩:=fo_hit hd oM hlt;have p:=hr j k oM hk e;have s:=ih j g oM;omega
  ·simp only [ctn] at f;omega
end
structure RepI (c:Nat->Nat) (k:Nat) (rs:List Nat):Prop where
 len:rs.length=ctn c k
 lt:∀ r∈rs,r<k
 rep:∀ j,j<k->∃ r,rs[c j]?=fU r/\r<k/\c r=c j
section
variable {c:Nat->Nat}{n k:Nat}{rs:List Nat}
theorem RepI.zero:RepI c 0 []:=⟨rfl,fun r h=>by simp at h,fun j h=>oM⟩
theorem RepI.skip (h:RepI c k rs)(hk:c k<rs.length)(hc:FO c n)(hkn:k<n):RepI c (k+1) rs:=by
 have g:ctn c (k+1)=ctn c k:=by
  have:=h.len;simp only [ctn];omega
 refine⟨by rw [g];exact h.len,fun r hr=>by have:=h.lt r hr;omega,fun j hj=>?_⟩;rcases dX (eF hj) with l|rfl
 ·obtain⟨r,b,d,a⟩:=h.rep j l;exact⟨r,b,oM,a⟩
 ·obtain⟨i,b,d⟩:=fo_hit hc (k:=j) oM (x:=c j) (oH h.len);obtain⟨r,a,m,f⟩:=h.rep i b;rw [d] at a f;exact⟨r,a,oM,f⟩
theorem RepI.push (h:RepI c k rs)(hk:¬ c k<rs.length)(hc:FO c n)(hkn:k<n):RepI c (k+1) (rs++[k]):=by
 have g:=hc k hkn;have i:=h.len;have b:c k=rs.length:=oM;refine⟨?_,fun r hr=>?_,fun j hj=>?_⟩
 ·rw [dK,dU];simp only [ctn];omega
 ·rcases List.mem_append.1 hr with hr|hr
  ·have:=h.lt r hr;omega
  ·obtain rfl:r=k:=by simpa using hr
   omega
 ·rcases dX (eF hj) with d|rfl
  ·obtain⟨r,a,l,f⟩:=h.rep j d;exact⟨r,by rw [dI (j9.1 a).1];exact a,oM,f⟩
  ·exact⟨j,by rw [b,dT (dD _)];simp,oM,rfl⟩
theorem ziF (hc:FO c n):∀ {k:Nat},k<=n->ctn c k<=k
 |0,_=>dD _
 |k+1,h=>by
  have h1:=ziF hc (k:=k) oM
  have h2:=hc k oM
  simp only [ctn]
  omega
theorem RepI.few (h:RepI c n rs)(hc:FO c n):rs.length<=n:=by rw [h.len];exact ziF hc (dD _)
theorem stb_of (hn:n=a.next.length)(h0:0<n)(hc:FO c n)(hr:RepI c n rs) (zki:∀ q r,q<n->r<n->c q=c r->zat a q=zat a r)
  (hrow:∀ q r,q<n->r<n->c q=c r->(a.next.getD q []).map (fun x=>c x.toNat)=(a.next.getD r []).map (fun x=>c x.toNat)):Stb a c rs:=by
 subst hn;have f:c 0=0:=by
  have:=hc 0 h0;simpa [ctn] using this
 refine⟨f,hr.rep,zki,fun q r k hq hr' e=>?_⟩;have b:=getD_map (fun x:Int=>c x.toNat) (a.next.getD q []) k 0;have d:=getD_map (fun x:Int=>c x.toNat) (a.next.getD r []) k 0;rw [<- b,<- d,hrow q r hq hr' e]
end
def keyL (f:Nat->List UInt8) (x:Nat) (r:List Nat):List UInt8:=f x++r.flatMap fun y=>44 :: f y
section
variable {f:Nat->List UInt8}{B:Nat}
theorem keyL_snoc (x:Nat) (r:List Nat) (y:Nat):keyL f x (r++[y])=keyL f x r++(44 :: f y):=by
 unfold keyL;rw [List.flatMap_append,iC];simp
theorem zhY:∀ {u v s t:List UInt8},44∉u->44∉v->(s=[]\/∃ s',s=44 :: s')->(t=[]\/∃ t',t=44 :: t')->u++s=v++t->u=v/\s=t
 |[],[],_,_,_,_,_,_,h=>⟨rfl,h⟩
 |[],b :: v,s,t,_,hv,hs,_,h=>by
  exfalso
  rcases hs with rfl|⟨s',rfl⟩
  ·simp at h
  ·simp only [eI,iA,List.cons.injEq] at h
   exact hv (by simp [h.1])
 |a :: u,[],s,t,hu,_,_,ht,h=>by
  exfalso
  rcases ht with rfl|⟨t',rfl⟩
  ·simp at h
  ·simp only [eI,iA,List.cons.injEq] at h
   exact hu (by simp [h.1])
 |a :: u,b :: v,s,t,hu,hv,hs,ht,h=>by
  simp only [iA,List.cons.injEq] at h
  obtain⟨rfl,h⟩:=h
  obtain⟨h1,h2⟩:=zhY (fun h=>hu (by simp [h])) (fun h=>hv (by simp [h])) hs ht h
  exact⟨by rw [h1],h2⟩
theorem tail_form (r:List Nat):(r.flatMap fun y=>44 :: f y)=[]\/∃ s',(r.flatMap fun y=>44 :: f y)=44 :: s':=by
 cases r with
 |nil=>exact .inl rfl
 |cons y r=>exact .inr ⟨f y++r.flatMap fun y=>44 :: f y,sM⟩
theorem keyL_inj (hf:∀ x,x<B->44∉f x)(hi:∀ x y,x<B->y<B->f x=f y->x=y):∀ {r t:List Nat}{x y:Nat},x<B->y<B->(∀ z∈r,z<B)->(∀ z∈t,z<B)->keyL f x r=keyL f y t->x=y/\r=t
 |r,t,x,y,hx,hy,hr,ht,h=>by
  unfold keyL at h
  obtain⟨h1,h2⟩:=zhY (hf x hx) (hf y hy) (tail_form r) (tail_form t) h
  refine⟨hi x y hx hy h1,?_⟩
  cases r with
  |nil=>cases t with
   |nil=>rfl
   |cons b t=>simp at h2
  |cons a r=>cases t with
   |nil=>simp at h2
   |cons b t =>
    rw [iU,iU,iA,iA,List.cons.injEq] at h2
    obtain⟨h3,h4⟩:=keyL_inj hf hi (r:=r) (t:=t) (hr a sM) (ht b sM) (fun z hz=>hr z (by simp [hz])) (fun z hz=>ht z (by simp [hz])) h2.2
    rw [h3,h4]
termination_by r=>r.length
end
theorem dig_comma (h:x<100):(44:UInt8)∉Lib.decDigits x:=by
 intro hm
 by_cases h1:x<10
 ·rw [Lib.decDigits_one h1] at hm;have:=congrArg UInt8.toNat (kF.1 hm);simp at this;omega
 ·rw [Lib.decDigits_two h1 h] at hm;rcases List.mem_cons.1 hm with e|e
  ·have:=congrArg UInt8.toNat e;simp at this;omega
  ·have:=congrArg UInt8.toNat (kF.1 e);simp at this;omega
theorem dig_inj (hx:x<100)(hy:y<100)(h:Lib.decDigits x=Lib.decDigits y):x=y:=by
 by_cases h1:x<10<;>by_cases h2:y<10
 ·rw [Lib.decDigits_one h1,Lib.decDigits_one h2] at h;have:=congrArg UInt8.toNat (List.cons.inj h).1;simp at this;omega
 ·rw [Lib.decDigits_one h1,Lib.decDigits_two h2 hy] at h;have:=congrArg List.length h;simp at this
 ·rw [Lib.decDigits_two h1 hx,Lib.decDigits_one h2] at h;have:=congrArg List.length h;simp at this
 ·rw [Lib.decDigits_two h1 hx,Lib.decDigits_two h2 hy] at h;have a:=congrArg UInt8.toNat (List.cons.inj h).1;have b:=congrArg UInt8.toNat (List.cons.inj (List.cons.inj h).2).1;simp at a b;omega
theorem dig_len (h:x<100):(Lib.decDigits x).length<=2:=by
 by_cases h1:x<10
 ·rw [Lib.decDigits_one h1];simp
 ·rw [Lib.decDigits_two h1 h];simp
def rowC (c:Nat->Nat) (r:List Int):List Nat:=r.map fun x=>c x.toNat
def kyB (c:Nat->Nat) (x:Nat) (r:List Int):ByteArray:=⟨(keyL Lib.decDigits x (rowC c r)).toArray⟩
theorem kyB_inj {c:Nat->Nat}(hc:∀ q,c q<100) (hx:x<100)(hy:y<100){t:List Int}(h:kyB c x r=kyB c y t):x=y/\rowC c r=rowC c t:=by
 unfold kyB at h;have a:=congrArg (fun z:ByteArray=>z.data.toList) h;simp only at a;refine keyL_inj (B:=100) (fun x hx=>dig_comma hx) (fun x y hx hy=>dig_inj hx hy) hx hy (fun z hz=>?_) (fun z hz=>?_) a
 ·obtain⟨q,-,rfl⟩:=kC.1 hz;exact hc _
 ·obtain⟨q,-,rfl⟩:=kC.1 hz;exact hc _
theorem keyL_size {c:Nat->Nat}(hc:∀ q,c q<100) (hx:x<100) (r:List Int):(keyL Lib.decDigits x (rowC c r)).length<=2+3*r.length:=by
 unfold keyL rowC;rw [dK,List.length_flatMap];have b:=dig_len hx;have a:∀ l:List Int,((l.map fun x=>c x.toNat).map fun y=>((44:UInt8) :: Lib.decDigits y).length).sum<=3*l.length:=by
  intro l
  induction l with
  |nil=>simp
  |cons z l ih =>
   have d:=dig_len (hc z.toNat);simp only [List.map_cons,List.sum_cons,List.length_cons] at ih ⊢;omega
 have:=a r;omega
theorem kyB_size {c:Nat->Nat}(hc:∀ q,c q<100) (hx:x<100) (r:List Int):(kyB c x r).size<=2+3*r.length:=by
 have:=keyL_size hc hx r;show (kyB c x r).data.size<=_;unfold kyB;simpa using this
theorem zhr {c d:Nat->Nat}:∀ {k:Nat},(∀ j,j<k->c j=d j)->ctn c k=ctn d k
 |0,_=>rfl
 |k+1,h=>by
  simp only [ctn]
  rw [zhr (k:=k) (fun j hj=>h j oM),h k oM]
def fnL (ds:List Nat) (j:Nat):Nat:=ds.getD j 0
theorem zjv (h:j<ds.length):fnL (ds++[v]) j=fnL ds j:=by
 unfold fnL;rw [dE,dE,dI h]
theorem fnL_end :fnL (ds++[v]) ds.length=v:=by
 unfold fnL;rw [dE,dT (dD _)];simp
theorem ziJ (h:j<ds.length):ds[j]?=fU (fnL ds j):=by
 unfold fnL;rw [dE,dB h];rfl
structure zil (ky:Nat->ByteArray) (ds:List Nat) (nm:Nat) (M:ByteArray->Option Nat):Prop where
 some_:∀ z v,M z=fU v->∃ j,j<ds.length/\ky j=z
 at_:∀ j v,ds[j]?=fU v->M (ky j)=fU v
 inj:∀ z z' v,M z=fU v->M z'=fU v->z=z'
 ct:ctn (fnL ds) ds.length=nm
 fo:FO (fnL ds) ds.length
section
variable {ky:Nat->ByteArray}{ds:List Nat}{nm:Nat}{M:ByteArray->Option Nat}
theorem zil.zero:zil ky [] 0 (fun _=>fV):=
 ⟨fun _ _ h=>(by cases h),fun _ _ h=>(by simp at h),fun _ _ _ h=>(by cases h),rfl,fun _ hk=>(by simp at hk)⟩
theorem zil.lt (h:zil ky ds nm M){z:ByteArray}(hz:M z=fU v):v<nm:=by
 obtain⟨j,b,rfl⟩:=h.some_ z v hz;have a:=h.at_ j _ (ziJ b);rw [hz] at a;rw [j8 a,<- h.ct];exact ziG _ b
theorem zil.ctn_step (h:zil ky ds nm M) (v:Nat):ctn (fnL (ds++[v])) (ds++[v]).length=max nm (v+1):=by
 rw [dK,dU];simp only [ctn];rw [fnL_end,zhr (d:=fnL ds) (fun j hj=>zjv hj),h.ct]
theorem zil.fo_step (h:zil ky ds nm M) (hv:v<=nm):FO (fnL (ds++[v])) (ds++[v]).length:=by
 intro k hk;rw [dK,dU] at hk;rw [zhr (d:=fnL ds) (fun j hj=>zjv oM)];rcases dX (eF hk) with a|rfl
 ·rw [zjv a];exact h.fo k a
 ·rw [fnL_end,h.ct];exact hv
theorem zil.hit (h:zil ky ds nm M) (hv:M (ky ds.length)=fU v):zil ky (ds++[v]) nm M:=by
 have d:=h.lt hv;refine⟨fun z u hz=>?_,fun j u a=>?_,h.inj,by rw [h.ctn_step];omega,h.fo_step oM⟩
 ·obtain⟨j,a,e⟩:=h.some_ z u hz;exact⟨j,by simp;omega,e⟩
 ·have b:=(j9.1 a).1;rw [dK,dU] at b;rcases dX (eF b) with c|rfl
  ·rw [dI c] at a;exact h.at_ j u a
  ·rw [dT (dD _)] at a;simp at a;rw [hv,a]
theorem zil.miss (h:zil ky ds nm M)(hv:M (ky ds.length)=fV):zil ky (ds++[nm]) (nm+1) (zik M (ky ds.length) nm):=by
 refine⟨fun z u hz=>?_,fun j u c=>?_,fun z z' u b a=>?_,by rw [h.ctn_step];omega,h.fo_step (dD _)⟩
 ·by_cases e:z=ky ds.length
  ·exact⟨ds.length,sM,e.symm⟩
  ·rw [zdf M _ e] at hz;obtain⟨j,c,f⟩:=h.some_ z u hz;exact⟨j,by simp;omega,f⟩
 ·have d:=(j9.1 c).1;rw [dK,dU] at d;rcases dX (eF d) with b|rfl
  ·rw [dI b] at c;have a:=h.at_ j u c;have e:ky j≠ky ds.length:=fun e=>by rw [e,hv] at a;cases a
   rw [zdf M _ e,a]
  ·rw [dT (dD _)] at c;simp at c;rw [zcA,c]
 ·by_cases e:z=ky ds.length<;>by_cases e':z'=ky ds.length
  ·rw [e,e']
  ·rw [e,zcA] at b;rw [zdf M _ e'] at a;have:=h.lt a;have:=j8 b;omega
  ·rw [e',zcA] at a;rw [zdf M _ e] at b;have:=h.lt b;have:=j8 a;omega
  ·rw [zdf M _ e] at b;rw [zdf M _ e'] at a;exact h.inj z z' u b a
theorem zil.same (h:zil ky ds nm M){r:Nat}(hq:q<ds.length)(hr:r<ds.length) (e:fnL ds q=fnL ds r):ky q=ky r:=by
 have a:=h.at_ q _ (ziJ hq);have b:=h.at_ r _ (ziJ hr);rw [e] at a;exact h.inj _ _ _ a b
end
structure ClsI (a:Aut) (cs:List Nat) (K:Nat):Prop where
 len:cs.length=a.next.length
 lt:∀ q,fnL cs q<100
 acc:∀ q r,q<a.next.length->r<a.next.length->fnL cs q=fnL cs r->zat a q=zat a r
 fo:K≠0->FO (fnL cs) cs.length/\ctn (fnL cs) cs.length=K
structure ClsR (a:Aut) (cs:List Nat):Prop where
 len:cs.length=a.next.length
 fo:FO (fnL cs) a.next.length
 acc:∀ q r,q<a.next.length->r<a.next.length->fnL cs q=fnL cs r->zat a q=zat a r
 row:∀ q r,q<a.next.length->r<a.next.length->fnL cs q=fnL cs r->(a.next.getD q []).map (fun x=>fnL cs x.toNat)=(a.next.getD r []).map (fun x=>fnL cs x.toNat)
section
variable {a:Aut}{cs ds:List Nat}{K nm N:Nat}{M:ByteArray->Option Nat}
theorem fo_le {c d:Nat->Nat}(hc:FO c n)(hd:FO d n)(hr:∀ q r,q<n->r<n->d q=d r->c q=c r):∀ k,k<=n->ctn c k<=ctn d k:=by
 exact yW17a2
theorem fo_small {c:Nat->Nat}(h:FO c n) (hq:q<n):c q<n:=by
 have a:=ziG c hq;have b:=ziF h (dD n);omega
abbrev kyR (a:Aut) (cs:List Nat) (q:Nat):ByteArray:=kyB (fnL cs) (fnL cs q) (a.next.getD q [])
theorem ClsI.keys (h:ClsI a cs K)(hn:zil (kyR a cs) ds nm M)(hl:ds.length=a.next.length){r:Nat}(hq:q<a.next.length)(hr:r<a.next.length) (e:fnL ds q=fnL ds r) :
  fnL cs q=fnL cs r/\rowC (fnL cs) (a.next.getD q [])=rowC (fnL cs) (a.next.getD r []):=
 kyB_inj h.lt (h.lt q) (h.lt r) (hn.same oM oM e)
theorem ClsI.step (h:ClsI a cs K)(hn:zil (kyR a cs) ds nm M)(hl:ds.length=a.next.length)(h0:1<=a.next.length)(hN:a.next.length<=99):ClsI a ds nm/\(nm≠K->K<nm)/\nm<=a.next.length:=by
 have b:FO (fnL ds) a.next.length:=by rw [<- hl];exact hn.fo
 have c:ctn (fnL ds) a.next.length=nm:=by rw [<- hl];exact hn.ct
 refine⟨⟨hl,fun q=>?_,fun q r hq hr e=>h.acc q r hq hr (h.keys hn hl hq hr e).1,fun _=>⟨hn.fo,hn.ct⟩⟩,fun hne=>?_,?_⟩
 ·by_cases hq:q<a.next.length
  ·have:=fo_small b hq;omega
  ·unfold fnL;rw [dE,dV oM];decide
 ·by_cases hK:K=0
  ·have:=ziG (fnL ds) (j:=0) (k:=a.next.length) oM;omega
  ·obtain⟨d,f⟩:=h.fo hK;rw [h.len] at d f;have:=fo_le d b (fun q r hq hr e=>(h.keys hn hl hq hr e).1) a.next.length (dD _);omega
 ·rw [<- c];exact ziF b (dD _)
theorem ClsI.stop (h:ClsI a cs K)(hn:zil (kyR a cs) ds K M)(hl:ds.length=a.next.length)(ha:Fit N a):ClsR a ds:=by
 have c:FO (fnL ds) a.next.length:=by rw [<- hl];exact hn.fo
 have d:ctn (fnL ds) a.next.length=K:=by rw [<- hl];exact hn.ct
 have l:=ha.row.2.1.1;have hK:K≠0:=by
  have:=ziG (fnL ds) (j:=0) (k:=a.next.length) oM;omega
 obtain⟨g,i⟩:=h.fo hK;rw [h.len] at g i;have f:=fo_eq g c (fun q r hq hr e=>(h.keys hn hl hq hr e).1) (by rw [d,i]);have b:∀ q,q<a.next.length->(a.next.getD q []).map (fun x=>fnL ds x.toNat)=rowC (fnL cs) (a.next.getD q []):=fun q hq=>by
  unfold rowC;refine iE fun x hx=>?_;have m:=(ha.row.2.2.2 q _ (by rw [dE,dB hq];rfl)).2 x hx;exact f _ oM
 exact⟨hl,c,fun q r hq hr e=>h.acc q r hq hr (h.keys hn hl hq hr e).1,fun q r hq hr e=>by rw [b q hq,b r hr];exact (h.keys hn hl hq hr e).2⟩
theorem ClsI.zero (h:cs.length=a.next.length)(hc:∀ q,q<a.next.length->fnL cs q=if zat a q=jU then 1 else 0):ClsI a cs 0:=by
 refine⟨h,fun q=>?_,fun q r hq hr e=>?_,fun h=>absurd rfl h⟩
 ·by_cases hq:q<a.next.length
  ·rw [hc q hq]
   split<;>decide
  ·unfold fnL;rw [dE,dV oM];decide
 ·rw [hc q hq,hc r hr] at e;cases h1:zat a q<;>cases h2:zat a r<;>simp_all
theorem ClsR.stb {rs:List Nat}(h:ClsR a cs)(ha:Fit N a)(hr:RepI (fnL cs) a.next.length rs):Stb a (fnL cs) rs:=
 stb_of rfl (oH ha.row.2.1.1) h.fo hr h.acc h.row
end
section
open Go.Maps
section
variable {α:Type}{mt kt:TypeId}{val:α->Value}{lit:α->Lit}{dom:α->Prop}
def MapN (kt:TypeId) (lit:α->Lit) (dom:α->Prop) (w:jX) (b n:Nat) (M:α->Option Nat):Prop:=
 ∃ D:DataW Unit,w.ownsMap j3 kt (plainElem j3 3) b n D/\Maps.size D=n/\∀ x,dom x->Maps.has D (lit x)=(M x).isSome/\∀ v,M x=fU v->D.atKey (lit x) (.lit (.int iX 0))=.lit (.int iX (v:Int))
section
variable {w w':jX}{b n:Nat}{M:α->Option Nat}
theorem MapN.g (h:MapN kt lit dom w b n M):zdC kt lit dom w b n M:=by
 obtain⟨D,a,-,c⟩:=h;exact⟨D,a,c⟩
theorem MapN.made (w:jX):MapN kt lit dom (w.alloc (.map #[] 0)) w.heap.size 0 (fun _=>fV):=
 ⟨.map [],World.ownsMap_made _ _ _ _,rfl,fun x hx=>⟨rfl,fun v hv=>by cases hv⟩⟩
theorem MapN.frm (h:MapN kt lit dom w b n M)(hf:Frm S w w')(hS:¬ S b):MapN kt lit dom w' b n M:=by
 obtain⟨D,⟨d,a,c,r⟩,f,hx⟩:=h;exact⟨D,⟨d,a,(hf.block b (Array.getElem?_eq_some_iff.1 c).1 hS).trans c,r⟩,f,hx⟩
theorem MapN.ext (h:MapN kt lit dom w b n M)(hx:Ext w w'):MapN kt lit dom w' b n M:=h.frm hx id
end
variable (w:jX){ops:Array Oper}{rest:List Oper}{o:Oper}{a:Act}{Q:Exit->Act->jX->Prop}
theorem ziz (K:KeyG mt kt val lit dom)(hg:o.guard=fV) (m x v:Operand)(hop:o.op=Op.mapUpdate mt m x v){M:α->Option Nat}
  (hm:a.eval m=.map (fU b)) (h:MapN kt lit dom w b n M) (hn:n<1152921504606846976) (key:α) (v9:Nat) (hx:a.eval x=val key) (hv:a.eval v=.int iX (v9:Int)) (hk:dom key) (hv9:v9<1152921504606846976) (hnew:M key=fV)
  (hK:∀ w',MapN kt lit dom w' b (n+1) (zik M key v9)->w.grownBy w' (fU b)->wpList j3 ops Q rest (a.put o.dst undef) w'):wpList j3 ops Q (o :: rest) a w:=by
 refine wpList_plain hg fun K' hK'=>?_;obtain⟨D,d,l,k⟩:=h;have c:=K.key hk;obtain⟨w',i,p,q⟩:=d.update K.keyed K.und lM c (plainElem_int (H:=Unit) Tryz.underlying3 (wfG hv9));have j:Maps.size (D.put (lit key) (.lit (.int iX (v9:Int))))=n+1:=by
  rw [size_put (d.tidy K.keyed),(k key hk).1,hnew];simp [l]
 have f:MapN kt lit dom w' b (n+1) (zik M key v9):=⟨_,p,j,fun y hy=>by
  unfold zik
  by_cases e:y=key
  ·subst e;rw [if_pos rfl];exact⟨has_put_same d.isMap (K.keyed.key c) _,fun u hu=>by rw [atKey_put_same d.isMap (K.keyed.key c)];cases hu;rfl⟩
  ·have g:lit y≠lit key:=fun h=>e (K.inj hy hk h);rw [if_neg e,has_put_other g,atKey_put_other g];exact k y hy⟩
 unfold Oper.wp;simp [execOp,hop,hm,hx,hv,i,Result.andThen];exact hK' _ _ (hK w' f q)
theorem zdA (K:KeyG mt kt val lit dom)(hg:o.guard=fV) (m:Operand)(hop:o.op=Op.call { callee:=Callee.builtin Builtin.len,args:=#[m],argTypes:=#[mt] }){M:α->Option Nat}
  (hm:a.eval m=.map (fU b)) (h:MapN kt lit dom w b n M) (hK:wpList j3 ops Q rest (a.put o.dst (.int iX (n:Int))) w):wpList j3 ops Q (o :: rest) a w:=by
 obtain⟨D,c,d,-⟩:=h;refine wpList_len_own w hg m mt hop kt 3 K.und _ b n D hm c ?_;rw [d];exact hK
end
end
section
open Go.Lib
theorem itoa_small (i:Nat)(h:i<100) (w:jX) :
  j6 j3 303 #[i] w fun e w'=>e=j5 (.string ⟨(Lib.decDigits i).toArray⟩)/\w=w':=by
 go_enter Tryz.func303,Tryz.ntmps303
 go_name_bytes_deep 45 SM hSM
 have b:SM=Lib.smalls:=by rw [<- hSM];decide +kernel
 subst b;clear hSM
 go_name_bytes_deep 30 DG hDG
 have a:DG=Lib.digits36:=by rw [<- hDG];decide +kernel
 subst a;clear hDG
 by_cases h10:i<10
 ·have c:∀ w,(Instr.slice 9 (.string Lib.digits36) (fU (.int iX (i:Int))) (fU (.int iX ((i:Int)+1))) fV).run j3 w=.ok (.string (Lib.digits36.extract i (i+1))) w:=fun w=>by
   rw [run_slice_string w 9 Lib.digits36 iX iX _ _ Tryz.underlying9 oM oM (by rw [Lib.digits36_size];omega),show ((i:Int)).toNat=i by omega,show ((i:Int)+1).toNat=i+1 by omega]
  go_wp2;go_ret;refine⟨?_,rfl⟩;show j5 (kA (Lib.digits36.extract i (i+1)))=_;rw [AnyPlain.small_ba (Lib.digits36.extract i (i+1)) (Lib.decDigits i) (by rw [Lib.extract_data];exact Lib.digits36_piece h10)]
 ·have c:∀ w,(Instr.slice 9 (.string Lib.smalls) (fU (.int iX ((i:Int)*2))) (fU (.int iX ((i:Int)*2+2))) fV).run j3 w=.ok (.string (Lib.smalls.extract (i*2) (i*2+2))) w:=fun w=>by
   rw [run_slice_string w 9 Lib.smalls iX iX _ _ Tryz.underlying9 oM oM (by rw [Lib.smalls_size];omega),show ((i:Int)*2).toNat=i*2 by omega,show ((i:Int)*2+2).toNat=i*2+2 by omega]
  go_wp2;go_ret;refine⟨?_,rfl⟩;show j5 (kA (Lib.smalls.extract (i*2) (i*2+2)))=_;rw [AnyPlain.small_ba (Lib.smalls.extract (i*2) (i*2+2)) (Lib.decDigits i) (by rw [Lib.extract_data];exact Lib.smalls_piece h10 h)]
theorem itoa_format (i:Nat)(h:i<100) (w:jX) :
  j6 j3 302 #[i,(10:Int)] w fun e w'=>e=j5 (.string ⟨(Lib.decDigits i).toArray⟩)/\w=w':=by
 have a:=za (itoa_small i h);have b:(0:Int)<=(i:Int)/\(i:Int)<100:=oM
 go_enter Tryz.func302,Tryz.ntmps302
 go_wp2_with (go_at_call 303;refine (a.out _).mono ?_;rintro e c ⟨rfl,rfl⟩)
 go_ret;exact⟨rfl,rfl⟩
theorem itoa_in (i:Nat)(h:i<100) (w:jX) :
  j6 j3 296 #[i] w fun e w'=>e=j5 (.string ⟨(Lib.decDigits i).toArray⟩)/\w=w':=by
 go_enter Tryz.func296,Tryz.ntmps296
 go_wp2_with (go_at_call 302;refine (itoa_format i h _).mono ?_;rintro e a ⟨rfl,rfl⟩)
 go_ret;exact⟨rfl,rfl⟩
theorem lib_Itoa (i:Nat)(h:i<100) (w:jX) :
  j6 j3 267 #[i] w fun e w'=>e=j5 (.string ⟨(Lib.decDigits i).toArray⟩)/\w=w':=by
 go_enter Tryz.func267,Tryz.ntmps267
 go_wp2_with (go_at_call 296;refine (itoa_in i h _).mono ?_;rintro e a ⟨rfl,rfl⟩)
 go_ret;exact⟨rfl,rfl⟩
end
abbrev domC (x:ByteArray):Prop:=x.size<=9223372036854775807
abbrev MapC (w:jX) (b n:Nat) (M:ByteArray->Option Nat):Prop:=MapN 9 (fun x:ByteArray=>Lit.string x.data.toList) domC w b n M
theorem made_z (n:Nat):(madeCells (Value.int iX 0).cells (n*1)).toList=zag (dS n 0):=by
 simp [Value.cells,toList_madeCells_one,zag]
theorem kyB_snoc {c:Nat->Nat}(hr:r[j]?=fU (y:Int))(hv:c y=v):kyB c x (r.take (j+1))=kyB c x (r.take j)++((⟨#[44]⟩:ByteArray)++(⟨(Lib.decDigits v).toArray⟩:ByteArray)):=by
 have h:rowC c (r.take (j+1))=rowC c (r.take j)++[v]:=by
  unfold rowC;rw [List.take_add_one,hr,Option.toList_some,eH,iQ,eM,hv]
 unfold kyB;rw [h,keyL_snoc];refine ByteArray.ext ?_;simp
theorem kyB_zero (c:Nat->Nat) (x:Nat) (r:List Int):kyB c x (r.take 0)=(⟨(Lib.decDigits x).toArray⟩:ByteArray):=by
 simp [kyB,keyL,rowC]
theorem fill_z (hk:ds.length=k)(hm:k<m):(zag (ds++dS (m - k) 0)).set k (.int iX (v:Nat))=zag ((ds++[v])++dS (m - (k+1)) 0):=by
 rw [<- zeR,List.set_append_right _ _ oM,hk,Nat.sub_self,show m - k=(m - (k+1))+1 by omega,List.replicate_succ,List.set_cons_zero,iC];rfl
theorem fnL_set {cs:List Nat}(v:Nat)(hq:q<cs.length):fnL (cs.set q v) j=if j=q then v else fnL cs j:=by
 unfold fnL;rw [dE,dE,List.getElem?_set]
 by_cases e:q=j
 ·subst e;rw [if_pos rfl,if_pos hq,if_pos rfl];rfl
 ·rw [if_neg e,if_neg (fun h=>e h.symm)]
def RetClz (w:jX) (a:Aut) (e:Ending) (w':jX):Prop:=
 ∃ (ds:List Nat) (g:Nat),e=j5 (fC (fU g) a.next.length a.next.length)/\w'.ownsRow w.heap.size 3 1 (fC (fU g) a.next.length a.next.length) a.next.length (zag ds)/\ClsR a ds/\Ext w w'
theorem zio {hi:Nat}(h:zJ w lo hi B m B' m' a)(hv:Fit N a)(hN:N<=99) :
  j6 j3 192 #[j2 #[a.al,fC B m d,fC B' m' d']] w (RetClz w a):=by
 obtain⟨-,⟨n1,bn⟩,ar,aj⟩:=hv.row;have S:=za h.n1;have aQ:=za (show m'=m by rw [h.n1,h.n2,ar]);have HN:=za (fun W (hW:Ext w W)=>h.1.ext hW);have HB:=za (fun W (hW:Ext w W)=>h.2.2.ext hW);have aR:=za aj;have Hv:=za hv;have bx:m<=99:=by rw [h.n1];omega
 have bN:1<=m:=by rw [h.n1];omega
 have h6:=zA a.al.toNat 6;have bO:=@run_makeMap j3;clear aj h n1 bn hv hN ar
 go_enter Tryz.func192,Tryz.ntmps192
 go_upto_region 1 with fail
 generalize U0:w.alloc _=R at *;obtain⟨aq,V⟩:=Ext.x1_ U0;clear U0;have c1:=V.cell;go_upto_region 2 with (at_make;refine zbd R R rfl _ _ 110 rfl 3 _ 1 8 Tryz.underlying110 zS _ _ m rfl rfl (cY _) oM lM ?_;intro w2 hx12 zkr hx2 hsz2)
 rw [made_z] at zkr;clear c1 hx2 hsz2;have c1:=(V.ext hx12).cell;obtain⟨G,hG⟩:∃ G,Hid (G=R.heap.size):=⟨_,rfl⟩;have aU:R.heap.size<=G:=oH hG.out;have ai:w2.ownsRow G 3 1 (fC (fU ⟨G,0,fV⟩) m m) m (zag (dS m 0)):=by rw [hG.out];exact zkr
 rw [<- hG.out];clear zkr;go_wp2_with fail
 go_loopw [4,21] (fun _ i wr=>∃ (q:Nat) (cs:List Nat),i=.int iX q/\q<=m/\Hid (cs.length=m/\∀ j,j<m->fnL cs j=if j<q/\zat a j=jU then 1 else 0)/\wr.ownsRow G 3 1 (fC (fU G) m m) m (zag cs)/\Ext R wr) (fun _ i _=>m - (intOf i).toNat)
 case atStart=>exact⟨0,_,rfl,dF _,za ⟨sM,fun j Y=>by rw [if_neg oM];unfold fnL;rw [dE,List.getElem?_replicate,if_pos Y];rfl⟩,ai,hx12⟩
 case round =>
  clear ai hx12 c1;obtain⟨q,cs,rfl,hq,f,c,hx⟩:=hrel;have c1:=(V.ext hx).cell
  by_cases hlt:q<m
  ·have a2:(q:Int)<(m:Int):=oM;have bw:(q:Int)<(m':Int):=oH aQ.out;obtain⟨ad,bb,rfl,-,-,hb,cb⟩:=(HB.out wr (aq.trans hx)).bool (k:=q) (oH aQ.out);have aW:=za (show zat a q=bb by unfold zat;rw [dE,hb.out];rfl);obtain⟨o0,g0⟩:=zaF c q oM;have f0:=c.frozenAt q;cases bb with
   |true =>
    have a7:=(c.stored q (.int iX (1:Nat))).1;rw [<- zeR] at a7;have ag:=za (show (cs.set q 1).length=m/\∀ j,j<m->fnL (cs.set q 1) j=if j<q+1/\zat a j=jU then 1 else 0 from ⟨by rw [List.length_set];exact f.out.1,fun j Y=>by
     rw [fnL_set 1 (oH f.out.1),f.out.2 j Y]
     by_cases e:j=q
     ·subst e;rw [if_pos rfl,if_pos ⟨oM,aW.out⟩]
     ·rw [if_neg e]
      by_cases e2:j<q/\zat a j=jU
      ·rw [if_pos e2,if_pos ⟨oM,e2.2⟩]
      ·rw [if_neg e2,if_neg (fun h=>e2 ⟨oM,h.2⟩)]⟩)
    have bk:Ext R (wr.setCell ⟨G,q,fV⟩ (.int iX (1:Nat))):=hx.setCell (p:=⟨G,q,fV⟩) aU _;clear c hx hb;go_wp2_with fail
    go_roundw
    case rel=>exact⟨q+1,_,gM,oM,ag,a7,bk⟩
    case measure=>exact uM
   |false =>
    have ag:=za (show cs.length=m/\∀ j,j<m->fnL cs j=if j<q+1/\zat a j=jU then 1 else 0 from ⟨f.out.1,fun j Y=>by
     rw [f.out.2 j Y]
     by_cases e:j=q
     ·subst e;rw [if_neg (fun h=>oM),if_neg (fun h=>by have:=aW.out;rw [h.2] at this;cases this)]
     ·by_cases e2:j<q/\zat a j=jU
      ·rw [if_pos e2,if_pos ⟨oM,e2.2⟩]
      ·rw [if_neg e2,if_neg (fun h=>e2 ⟨oM,h.2⟩)]⟩)
    clear hb;go_wp2_with fail
    go_roundw
    case rel=>exact⟨q+1,_,gM,oM,ag,c,hx⟩
    case measure=>exact uM
  ·obtain rfl:m=q:=oM;have aV:=za (ClsI.zero (a:=a) (cs:=cs) (by rw [f.out.1,S.out]) (fun j Y=>by
    rw [f.out.2 j (by rw [S.out];exact Y)]
    by_cases e:zat a j=jU
    ·rw [if_pos ⟨by rw [S.out];exact Y,e⟩,if_pos e]
    ·rw [if_neg (fun h=>e h.2),if_neg e]))
   have ah:=za (zm c aU);have a8:=za hx;clear c hx c1 f;go_wp2_with fail
   go_loopw [3,5,6,7,8,9,10,12,13,14] (fun v3 v5 _ _ _ _ _ _ _ _ wr=>∃ (g:Nat) (cs:List Nat) (K:Nat),v3=fC (fU g) m m/\v5=.int iX K/\K<=m/\Hid (ClsI a cs K)/\Hid (wr.ownsRow R.heap.size 3 1 (fC (fU g) m m) m (zag cs))/\Hid (Ext R wr)) (fun _ v5 _ _ _ _ _ _ _ _ _=>m+1 - (intOf v5).toNat)
   case atStart=>exact⟨G,cs,0,rfl,rfl,dF _,aV,ah,a8⟩
   case round =>
    clear aV ah a8;obtain⟨g,cs,K,rfl,rfl,hK,hI,c,hx⟩:=hrel;obtain⟨Q,aL⟩:∃ Q,Q=wr:=⟨_,rfl⟩;subst aL;have an:Ext Q (Q.alloc (.map #[] 0)):=(cY _).alloc _;have af:MapC (Q.alloc (.map #[] 0)) Q.heap.size 0 (fun _=>fV):=MapN.made Q;go_upto_region 10 with fail
    obtain⟨mb,a3⟩:∃ mb,Hid (mb=Q.heap.size):=⟨_,rfl⟩;rw [<- a3.out] at af ⊢;have bz:R.heap.size<=mb:=by have:=a3.out;have:=hx.out.size;omega
    generalize Q.alloc (.map #[] 0)=w4 at *;go_upto_region 11 with (at_make;refine zbd w4 w4 rfl _ _ 110 rfl 3 _ 1 8 Tryz.underlying110 zS _ _ m rfl rfl (cY _) oM lM ?_;intro w5 hx45 zkt hx5 hsz5)
    rw [made_z] at zkt;clear hx5;obtain⟨n,aF⟩:∃ n,Hid (n=w4.heap.size):=⟨_,rfl⟩;rw [<- aF.out] at zkt ⊢;have aZ:R.heap.size<=n:=by have:=aF.out;have:=hx.out.size;have:=an.size;omega
    have az:=za (hx.out.trans (an.trans hx45));have E:=za (zm zkt aZ);have u:=za (af.ext hx45);have av:=za (zi c.out (an.trans hx45));have bh:=za (fun (e:g=mb)=>u.out.g.aj av.out (by rw [e];rfl));have a0:=za (show g≠n from fun e=>by
     have h1:=(c.out.lt g rfl).2;have h2:=an.size;have h3:=aF.out;omega)
    have aw:=za (show n≠mb from fun e=>u.out.g.aj zkt (by rw [e];rfl));have k1:=(V.ext az.out).cell;clear an af hx45 zkt hsz5 c;go_wp2_with fail
    go_loopw [8,9,10,12,13,14,40] (fun _ _ _ _ _ _ i wr=>∃ (k t:Nat) (I:List Nat) (M:ByteArray->Option Nat),i=.int iX k/\k<=m/\Hid (I.length=k)/\Hid (zil (kyR a cs) I t M)/\Hid (MapC wr mb t M)/\Hid (wr.ownsRow R.heap.size 3 1 (fC (fU n) m m) m (zag (I++dS (m - k) 0)))/\Hid (Frm (fun b=>b=mb\/b=n) w5 wr)) (fun _ _ _ _ _ _ i _=>m - (intOf i).toNat)
    case atStart=>exact⟨0,0,[],_,rfl,dF _,za rfl,za zil.zero,u,E,za (Frm.refl _ _)⟩
    case round =>
     clear u E k1;obtain⟨k,t,I,M,rfl,hk,o,L,l,O,ap⟩:=hrel;have F:=za (az.out.frm ap.out (fun b hb e=>by rcases e with e|e<;>omega))
     have aX:=za (zf av.out ap.out (fun b hb e=>by
      have h1:g=b:=by simpa [Value.ownBlock] using hb
      rcases e with e|e
      ·exact bh.out (h1.trans e)
      ·exact a0.out (h1.trans e)))
     have k1:=(V.ext F.out).cell
     by_cases hlt:k<m
     ·obtain⟨ad,Ak,ck,row,rfl,_,_,ay,bg,a5⟩:=(HN.out wr (aq.trans F.out)).row hlt;obtain⟨bi,a4⟩:=aR.out k row ay.out;have ba:=za a4;have bc:=za a5;have a2:(k:Int)<(m:Int):=oM;have bA:row.length<=6:=oM;have aC:∀ j,j<m->wr.cell? ⟨g,j,fV⟩=fU (.int iX (fnL cs j:Nat)):=fun j Y=>by
       rw [aX.out.cellAt j oM];unfold zag;rw [dO,ziJ (by rw [hI.out.len,<- S.out];exact Y)];rfl
      have bd:=za aC;have aT:=aC k hlt;have bj:=za (show a.next.getD k []=row by rw [dE,ay.out];rfl);obtain⟨x,aN⟩:∃ x,Hid (fnL cs k=x):=⟨_,rfl⟩;have am:x<100:=by rw [<- aN.out];exact hI.out.lt k
      rw [aN.out] at aT;obtain⟨z0,aO⟩:∃ z0,Hid (kyB (fnL cs) x (row.take 0)=z0):=⟨_,rfl⟩;have J:=za (fun W=>lib_Itoa x am W);rw [<- kyB_zero (fnL cs) x row,aO.out] at J;clear a5 a4 bi aC;go_upto_region 15 with (go_at_call 267;refine (J.out _).mono ?_;rintro e w6 ⟨rfl,rfl⟩)
      clear aT k1 bg;obtain⟨Q,aL⟩:∃ Q,Q=wr:=⟨_,rfl⟩;subst aL;go_wp2_with fail
      go_loopw [10,12,52] (fun v10 _ jv wr=>∃ j:Nat,v10=.string (kyB (fnL cs) x (row.take j))/\jv=.int iX j/\j<=row.length/\wr=Q) (fun _ _ jv _=>row.length - (intOf jv).toNat)
      case atStart=>exact⟨0,by rw [aO.out],rfl,dF _,rfl⟩
      case round =>
       clear aO J;obtain⟨j,rfl,rfl,Y,rfl⟩:=hrel;have Z:=kyB_size hI.out.lt am (row.take j);rw [List.length_take] at Z;obtain⟨H,aG⟩:∃ H,Hid (kyB (fnL cs) x (row.take j)=H):=⟨_,rfl⟩;rw [aG.out] at Z ⊢;have bu:H.size<=20:=oM;clear Z
       by_cases hjl:j<row.length
       ·have bt:(j:Int)<(row.length:Int):=oM;obtain⟨bI,y0,rfl,_,_,a9,bM⟩:=bc.out.int hjl;obtain⟨y1,y2⟩:=ba.out y0 (dC a9.out);obtain⟨y,rfl⟩:∃ y:Nat,y0=y:=⟨y0.toNat,oM⟩;have bl:y<m:=oH S.out;have bB:(y:Int)<(m:Int):=oM;have cy:=bd.out y bl;obtain⟨v,aK⟩:∃ v,Hid (fnL cs y=v):=⟨_,rfl⟩;have ak:v<100:=by rw [<- aK.out];exact hI.out.lt y
        rw [aK.out] at cy;have aI:=za (kyB_snoc (x:=x) a9.out aK.out);rw [aG.out] at aI;obtain⟨z,hz⟩:∃ z:ByteArray,Hid ((⟨(Lib.decDigits v).toArray⟩:ByteArray)=z):=⟨_,rfl⟩;have bQ:z.size<=2:=by rw [<- hz.out];exact (show (Lib.decDigits v).toArray.size<=2 by simpa using dig_len ak)
        have J:=za (fun W=>lib_Itoa v ak W);rw [hz.out] at J aI;have q1:¬ 9223372036854775807<1+z.size:=oM;have q2:¬ 9223372036854775807<H.size+(1+z.size):=oM;clear y1 y2;go_wp2_with (go_at_call 267;refine (J.out _).mono ?_;rintro e w6 ⟨rfl,rfl⟩)
        go_roundw
        case rel=>exact⟨j+1,by rw [aI.out],gM,oM,trivial⟩
        case measure=>exact uM
       ·obtain rfl:j=row.length:=oM;have aa:=za (show kyR a cs I.length=H by
         show kyB (fnL cs) (fnL cs I.length) (a.next.getD I.length [])=H;rw [o.out,bj.out,aN.out,<- aG.out,eJ])
        have aD:=za (show domC H by show H.size<=_;omega);obtain⟨o0,g0⟩:=zaF O.out k oM;have f0:=O.out.frozenAt k;cases hM:M H with
        |some v =>
         have r:=(O.out.stored k (.int iX (v:Nat))).1;rw [fill_z o.out hlt] at r;have U:=za r;have C:=za (L.out.hit (v:=v) (by rw [aa.out,hM]));have X:=za (ap.out.cell (p:=⟨n,k,fV⟩) (.inr rfl) (.int iX (v:Nat)));have ae:=za (l.out.frm (Frm.setCell wr n k (.int iX (v:Nat))) (fun e=>aw.out e.symm));have aJ:(M H).isSome=jU:=by rw [hM];rfl
         have aB:=za hM;clear hM r;go_upto_region 21 with (refine zaK (key:=H) _ keyS rfl _ _ rfl rfl l.out.g rfl aD.out ?_;rw [aJ];intro cc hcc;obtain rfl:=hcc v aB.out;clear hcc)
         go_wp2_with fail
         go_roundw
         case rel=>exact⟨k+1,t,I++[v],M,gM,oM,za (by have:=o.out;simp;omega),C,ae,U,X⟩
         case measure=>exact uM
        |none =>
         have C:=za (L.out.miss (by rw [aa.out,hM]));rw [aa.out] at C;have bP:t<=k:=by have:=ziF L.out.fo (dD _);have:=L.out.ct;have:=o.out;omega
         have aJ:(M H).isSome=j1:=by rw [hM];rfl
         have aB:=za hM;clear hM;go_upto_region 21 with (refine zaK (key:=H) _ keyS rfl _ _ rfl rfl l.out.g rfl aD.out ?_;rw [aJ];intro cc hcc;clear hcc)
         go_upto_region 24 with (first
          |(at_len;refine zdA _ keyS rfl _ rfl rfl l.out ?_)
          |(refine ziz (key:=H) (v9:=t) (b:=mb) _ keyS rfl _ _ _ rfl rfl l.out oM rfl rfl aD.out oM aB.out ?_;intro w7 hm7 hg7))
         have aE:Frm (fun b=>fU mb=fU b) wr w7:=Frm.ab hg7;have D:=zf O.out aE (fun b hb e=>by
          obtain rfl:=j8 e;exact l.out.g.aj O.out hb)
         obtain⟨o7,g7⟩:=zaF D k oM;have f7:=D.frozenAt k;have r:=(D.stored k (.int iX (t:Nat))).1;rw [fill_z o.out hlt] at r;have U:=za r;have X:=za ((ap.out.trans (aE.mono (T:=fun b=>b=mb\/b=n) (fun b _ e=>.inl (j8 e).symm))).cell (p:=⟨n,k,fV⟩) (.inr rfl) (.int iX (t:Nat)));have ae:=za (hm7.frm (Frm.setCell w7 n k (.int iX (t:Nat))) (fun e=>aw.out e.symm));clear r hm7 hg7 aE D g0 f0;go_wp2_with fail
         go_roundw
         case rel=>exact⟨k+1,t+1,I++[t],_,gM,oM,za (by have:=o.out;simp;omega),C,ae,U,X⟩
         case measure=>exact uM
     ·obtain rfl:m=k:=oM;have aY:=za (show I.length=a.next.length by rw [o.out,S.out]);have ax:=za (show wr.ownsRow R.heap.size 3 1 (fC (fU n) m m) m (zag I) by
       have:=O.out;rwa [Nat.sub_self,List.replicate_zero,List.append_nil] at this)
      obtain⟨s,ab,aH⟩:=hI.out.step L.out aY.out (oH S.out) (oH S.out);have aA:=za s
      by_cases hE:t=K
      ·subst hE;have a6:=za (show RetClz w a (j5 (fC (fU n) m m)) wr from ⟨I,n,by rw [S.out],by
        have:=zm ax.out aq.size;rwa [S.out] at this,hI.out.stop L.out aY.out Hv.out,aq.trans F.out⟩)
       clear s ab aH;go_wp2_with (at_len;refine zdA _ keyS rfl _ rfl rfl l.out ?_)
       go_ret;exact a6.out
      ·have bK:¬ (t:Int)=(K:Int):=oM;have bL:=ab hE;have a1:t<=m:=by rw [S.out];exact aH
       clear s ab aH;go_wp2_with (at_len;refine zdA _ keyS rfl _ rfl rfl l.out ?_)
       go_roundw
       case rel=>exact⟨n,I,t,rfl,rfl,a1,aA,ax,F⟩
       case measure=>exact uM
end Go.Proofs.YtckbjnndaaoddaaGreatDoor
