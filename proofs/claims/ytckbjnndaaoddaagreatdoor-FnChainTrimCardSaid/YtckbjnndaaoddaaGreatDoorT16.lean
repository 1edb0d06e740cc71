/- impl.VerifyC -/
import Derived.Test.YtckbjnndaaoddaaGreatDoorT15
import Derived.Laws.StructEq
set_option maxHeartbeats 4000000
set_option maxRecDepth 100000
namespace Go.Proofs.YtckbjnndaaoddaaGreatDoor
open Go Go.RowKit
open Blk renaming new->eO
open Ext renaming bl_->eM,refl->dB
open Frm renaming ae->fF,setCell->dG
open List renaming getElem?_eq_getElem->dE,getElem?_set_ne->gI,getElem?_set_self->fJ,length_set->fT,mem_of_getElem?->dC,mem_or_eq_of_mem_set->fU,nil_append->eY,getElem?_eq_some_iff->kT,mem_append->kY,mem_singleton->lA
open Nat renaming add_assoc->fN,le_refl->dD,le_trans->dW,lt_of_lt_of_le->eI,zero_add->eK,zero_le->dH
open Bool renaming false->kK,true->kC
open Go renaming Calls->kQ,Value->kL,World->kJ
open Go.Ending renaming returned->kP
open Go.IntKind renaming i64->kA
open Go.Value renaming agg->kO,pointer->kV,slice->fQ,string->kU
open Option renaming none->gP,some->gO
open Option.some renaming inj->kS
open _root_.Go.Proofs.Tryz renaming prog->kN
variable {A A':Option Addr}{G L M N R Z base c c' g hi i n n' p:Nat}{W w w' w0 w1:kJ}{a b:Aut}{acc:List Bool}{al st x:Int}{cs us:Array kL}{es:List Edg}{l:List Int}{ls:List (List Int)}{s:ByteArray}{v v':kL}
def RetVcH (w:kJ) (v:Vc) (e:Ending) (w':kJ):Prop:=
 ∃ (A:Option Addr) (n c:Nat) (A':Option Addr) (n' c':Nat) (C:Option Addr) (k d:Nat) (C':Option Addr) (k' d' mid:Nat),
  e=kP (kO #[v.code,v.fst.al,fQ A n c,fQ A' n' c',v.snd.al,fQ C k d,fQ C' k' d',v.tr,v.ro])/\AutH w' w.heap.size mid A n c A' n' c' v.fst/\zM w' mid C k d C' k' d' v.snd/\w.heap.size<=mid/\Ext w w'
theorem AutH.wide {base' hi':Nat}(h:AutH w base hi A n c A' n' c' a)(h1:base'<=base)(h2:hi<=hi'):AutH w base' hi' A n c A' n' c' a:=by
 obtain⟨⟨d,f,g,m⟩,o,j,k,p,l⟩:=h;exact⟨⟨d,zn f h1,g.less h1,fun i row b hr hb=>eI (m i row b hr hb) h2⟩,fun b hb=>eI (o b hb) h2,j,zn k h1,fun b hb=>eI (p b hb) h2,l⟩
theorem zhq (W:kJ) (base hi:Nat):AutH W base hi gP 0 0 gP 0 0 noA:=
 ⟨⟨[],World.ownsRow_nil _ _ _ _,zC.nil _ _,fun i row b hr _=>by simp at hr⟩,(fun b hb=>by cases hb),rfl,World.ownsRow_nil _ _ _ _,(fun b hb=>by cases hb),rfl⟩
theorem vc_fin {vs:Array kL}(hx:Ext w W)(hb:Blk W Z 33 vs)(h9:vs.size=9)(hZ:w.heap.size<=Z) (u0 u1 u2 u3 u4 u5 u6 u7 u8:kL) :
  Blk (((((((((W.setCell Z u0).setCell ⟨Z,1,gP⟩ u1).setCell ⟨Z,2,gP⟩ u2).setCell ⟨Z,3,gP⟩ u3).setCell ⟨Z,4,gP⟩ u4).setCell ⟨Z,5,gP⟩ u5).setCell ⟨Z,6,gP⟩ u6).setCell ⟨Z,7,gP⟩ u7).setCell ⟨Z,8,gP⟩ u8) Z 33 #[u0,u1,u2,u3,u4,u5,u6,u7,u8] /\
  Frm (fun k=>k=Z) W (((((((((W.setCell Z u0).setCell ⟨Z,1,gP⟩ u1).setCell ⟨Z,2,gP⟩ u2).setCell ⟨Z,3,gP⟩ u3).setCell ⟨Z,4,gP⟩ u4).setCell ⟨Z,5,gP⟩ u5).setCell ⟨Z,6,gP⟩ u6).setCell ⟨Z,7,gP⟩ u7).setCell ⟨Z,8,gP⟩ u8) /\
  Ext w (((((((((W.setCell Z u0).setCell ⟨Z,1,gP⟩ u1).setCell ⟨Z,2,gP⟩ u2).setCell ⟨Z,3,gP⟩ u3).setCell ⟨Z,4,gP⟩ u4).setCell ⟨Z,5,gP⟩ u5).setCell ⟨Z,6,gP⟩ u6).setCell ⟨Z,7,gP⟩ u7).setCell ⟨Z,8,gP⟩ u8):=by
 have hf:=vc_frm W Z u0 u1 u2 u3 u4 u5 u6 u7 u8;exact⟨zim hb h9 u0 u1 u2 u3 u4 u5 u6 u7 u8,hf,hx.frm hf (fun q hq e=>by have e':q=Z:=e;omega)⟩
section
variable {w:kJ}{lo hi n c lo1 hi1 m d m' d':Nat}{A B B':Option Addr}{ss:List Sys}{p:Aut}
theorem zgC (h:zeo w lo hi A n ss)(hp:zF w lo1 hi1 B m B' m' p)(h3:three ss p=kK) :
  kQ kN 16 #[fQ A n c,kO #[p.al,fQ B m d,fQ B' m' d']] w (RetVcH w ⟨3,noA,noA,⟨#[]⟩,0⟩):=by
 have j:=za (show zaw ss p = -1 by unfold zaw;rw [h3];rfl);have f:=za (fun W (hW:Ext w W)=>zdP (c:=c) (d:=d) (d':=d') (h.ext hW) (hp.ext hW));rw [j.out] at f;clear h hp h3;generalize zcM ss p=t at *
 go_enter Tryz.func16,Tryz.ntmps16
 go_upto_region 1 with fail
 generalize U0:(w.alloc _).alloc _=u at *;obtain⟨g,l,o⟩:=Ext.x2_ U0;clear U0;have q:=l.cell;go_upto_region 99 with fail
 refine (f.out _ g).mono (mQ fun w1 i=>?_);have a:=o.ext i;clear q;have s:=a.cell;have r:=a.frozen;go_wp2_with fail
 have b:=vc_fin (g.trans i) a rfl oM (.int kA 3) (.int kA 0) (fQ gP 0 0) (fQ gP 0 0) (.int kA 0) (fQ gP 0 0) (fQ gP 0 0) (.string ⟨#[]⟩) (.int kA 0);have cf:=b.1.cell;have k:=za b.2.2;clear b s r a;generalize ((((((((w1.setCell ⟨w.heap.size+1,0,gP⟩ (3:Int)).setCell ⟨w.heap.size+1,1,gP⟩ (0:Int)).setCell ⟨w.heap.size+1,2,gP⟩ ()).setCell ⟨w.heap.size+1,3,gP⟩ ()).setCell ⟨w.heap.size+1,4,gP⟩ (0:Int)).setCell ⟨w.heap.size+1,5,gP⟩ ()).setCell ⟨w.heap.size+1,6,gP⟩ ()).setCell ⟨w.heap.size+1,7,gP⟩ (.string ⟨#[]⟩)).setCell ⟨w.heap.size+1,8,gP⟩ (0:Int)=X at *;exact bodyPost_ret (v:=kO #[(3:Int),(0:Int),(),(),(0:Int),(),(),kU ⟨#[]⟩,(0:Int)]) (by simp [results,Tryz.results16,go_sem,cf]) rfl (by
  skip;exact⟨gP,0,0,gP,0,0,gP,0,0,gP,0,0,w.heap.size,rfl,zhq _ _ _,zbU _ _,dD _,k.out⟩)
theorem yT16a3 {P:Prop}(h:P:=by
 have hxO:=hx25.frm hf (fun k hk e=>by have e':k=G:=e;omega);have Hf:=za (And.intro hSG (And.intro hbO (And.intro hjO hxO)));have hsO:=za hf.size;have hsB:=bG.lt;clear hf hbO hjO hxO hok hJ cG fG bG;go_wp2_with fail
 go_meet;exact⟨F,S0,G,wd.heap.size,rfl,rfl,⟨oM,hsd,by have:=hsO.out;have:=hx25.size;omega⟩,hO.out,Hf.out⟩
 ):P:=h
theorem yT16a6 {P:Prop}(h:P:=by
 simpa using (((((bG.ab 0 (.int .i64 v.code)).ab 1 (.int .i64 v.asm.al)).ab 2 (.slice Z1 z1 y1)).ab 3 (.slice Z2 z2 y2)).ab 4 (.string v.tr)).ab 5 (.int .i64 v.ro)
 ):P:=h
theorem zgD {x y z:Sys}{b o:Nat}(h:zeo w lo hi (gO ⟨b,o,gP⟩) 3 [x,y,z])(hp:zF w lo1 hi1 B m B' m' p)(h3:three [x,y,z] p=kC)(hc:zaw [x,y,z] p=(L:Int))(hL:L<64)(hT:Tab w)(hhi:hi<=w.heap.size)(hhi1:hi1<=w.heap.size) :
  kQ kN 16 #[fQ (gO ⟨b,o,gP⟩) 3 c,kO #[p.al,fQ B m d,fQ B' m' d']] w (RetVcH w (chT x y z p L 12 0 ((zac L (zo x p L) [⟨#[]⟩] 11 [⟨#[]⟩]).map fun r=>(r,[⟨#[]⟩])))):=by
 obtain⟨-,cE,vp⟩:=zgr.1 h3;obtain⟨-,hv⟩:=zap cE;have vx:=hv x sM;have vy:=hv y sM;have vz:=hv z sM;obtain⟨A1,n1,c1,f0,f1,f2,bP⟩:=h.sys2 (k:=0) (s:=x) rfl;obtain⟨A2,n2,c2,g0,g1,g2,cP⟩:=h.sys2 (k:=1) (s:=y) rfl;obtain⟨A3,n3,c3,e0,e1,e2,ak⟩:=h.sys2 (k:=2) (s:=z) rfl;have b2:=za (show ∀ W,Ext w W->W.cell? ⟨b,o,gP⟩=gO (.int kA x.al)/\W.cell? ⟨b,o+1,gP⟩=gO (.int kA x.st)/\W.cell? ⟨b,o+2,gP⟩=gO (fQ A1 n1 c1)/\W.cell? ⟨b,o+3,gP⟩=gO (.int kA y.al)/\W.cell? ⟨b,o+4,gP⟩=gO (.int kA y.st)/\W.cell? ⟨b,o+5,gP⟩=gO (fQ A2 n2 c2)/\W.cell? ⟨b,o+6,gP⟩=gO (.int kA z.al)/\W.cell? ⟨b,o+7,gP⟩=gO (.int kA z.st)/\W.cell? ⟨b,o+8,gP⟩=gO (fQ A3 n3 c3) from fun W hW =>
  ⟨hW.aa (by simpa using f0),hW.aa (by simpa using f1),hW.aa (by simpa using f2),hW.aa (by simpa using g0),hW.aa (by simpa [fN] using g1),hW.aa (by simpa [fN] using g2),hW.aa (by simpa using e0),hW.aa (by simpa [fN] using e1),hW.aa (by simpa [fN] using e2)⟩)
 have b5:=za (fun W0 W (hW0:Ext w W0) (hW:Ext W0 W)=>zfo (w0:=W0) (c:=c1) (d:=d) (d':=d') hW ((bP.more (Nat.min_le_left lo lo1) (Nat.le_max_left hi hi1)).ext (hW0.trans hW)) ((hp.more (Nat.min_le_right lo lo1) (Nat.le_max_right hi hi1)).ext (hW0.trans hW)) vx vp hL (dW (Nat.max_le.2 ⟨hhi,hhi1⟩) hW0.size) (hT.ext hW0));have b3:=za (fun W (hW:Ext w W)=>zdP (c:=c) (d:=d) (d':=d') (h.ext hW) (hp.ext hW));rw [hc] at b3;have cZ:=za (fun W (hW:Ext w W)=>zbT (c:=c) (d2:=d) (d2':=d') (h.ext hW) (hp.ext hW) (hT.ext hW));have HX:=za (fun W (hW:Ext w W)=>bP.ext hW);have HP:=za (fun W (hW:Ext w W)=>hp.ext hW);have c4:=za (fun W (hW:Ext w W) (a:Aut) (X:Option Addr) (k1 d1:Nat) (X':Option Addr) (k1' d1' l1 l2:Nat) (ha:zF W l1 l2 X k1 X' k1' a)=>zhL (c:=c2) (c2:=c3) (d:=d1) (d':=d1') (cP.ext hW) ha (ak.ext hW) (hT.ext hW));have Hv:=za (And.intro vx (And.intro vy (And.intro vz vp)));have ba:L<=63:=oM;have b6:=za (fun W (hW:Ext w W)=>hT.ext hW);obtain⟨S,ct⟩:∃ S,Hid (S=chT x y z p L 12 0 ((zac L (zo x p L) [⟨#[]⟩] 11 [⟨#[]⟩]).map fun r=>(r,[⟨#[]⟩]))):=⟨_,za rfl⟩;rw [<- ct.out];clear h hp h3 hc cE vp hv vx vy vz f0 f1 f2 g0 g1 g2 e0 e1 e2 bP cP ak hhi hhi1 hT;generalize zcM [x,y,z] p=q2 at *;have dV:¬ (L:Int)<0:=oM
 go_enter Tryz.func16,Tryz.ntmps16
 go_upto_region 1 with fail
 generalize U0:(w.alloc _).alloc _=w1 at *;obtain⟨cL,b4,b8⟩:=Ext.x2_ U0;clear U0;have k4:=b4.cell;go_upto_region 4 with (go_at_call 23;refine (b3.out _ cL).mono (mQ fun w2 ah=>?_))
 have Z:=cL.trans ah;have cX:=fun W (hW:Ext w2 W)=>b2.out W (Z.trans hW);have dw:∀ W,Ext w2 W->∀ q,W.cell? ⟨w.heap.size,q,gP⟩=#[Value.int kA p.al,fQ B m d,fQ B' m' d'][q]?:=fun W hW=>(b4.ext (ah.trans hW)).cell;have bh:=dB w2;clear k4;have cH:=zjm (122)
 go_cut [7,8] (fun v7 v8 wx=>∃ (F:Sfx) (S0:Nat->Prop) (G lo:Nat),v7=.pointer (gO G)/\v8=.bool kC/\(w2.heap.size<=G/\w2.heap.size<=lo/\lo<=wx.heap.size)/\zfM lo L (zo x p L) (zhD F) 122 (.pointer (gO ⟨F.G,0,gP⟩))/\¬ S0 G/\Blk wx G 83 #[(L:Int),.func (.func 122) #[kV (gO ⟨F.G,0,gP⟩)] #[]]/\zhD F 0 wx S0/\Ext w2 wx)
 case first =>
  refine uR (fun X=>Ext w2 X) [7,12] (zx.app [0,1,2,3,4,5,6] (zx.two 7 (zx.of [8,9,10,11,12,13]) 11 (zx.of [7,8,9,10,12,13]))) ?_;refine uQ ?_;have Q:Ext w2 w2.drew:=bh.drew;have hsd:=Q.size;generalize w2.drew=wd at *;refine zm (fun K hK=>?_) (fun K hK=>?_)
  ·go_simp;refine (b5.out wd wd (Z.trans Q) (dB wd)).mono ?_;rintro e w4 ⟨F,S0,rfl,hok,bz,bx,bu,aF,dk,hJ,ab⟩;have bi:=Q.trans ab;refine hK.out _ _ bi ?_;refine pT ?_;refine uQ ?_;refine ze fun K hK=>?_;go_simp;have O:=(dB w4).alloc (.cells #[(0:Int),.nilFunc] 83);have hx25:=bi.trans O;have cF:=ab.size;have hSG:¬ S0 w4.heap.size:=zbs.fresh (zhD.ok hok) hJ (dD _);have dm:=(zhD.ok hok).keep hJ O (fun _ _ h=>h.elim);refine hK.out _ _ hx25 ?_;generalize U0:w4.alloc _=we at *;have bG:=eM U0;clear U0;generalize w4.heap.size=G at *;refine pT ?_;have cG:=bG.cell;have fG:=bG.frozen;refine zb fun K hK=>?_;go_simp;refine hK.out _ _ ?_;refine uQ ?_;refine zg ?_;have hf:=(dG we G 0 (.int kA (L:Int))).trans (dG _ G 1 (.func (.func 122) #[kV (gO ⟨F.G,0,gP⟩)] #[]));have hO:=za (show zfM wd.heap.size L (zo x p L) (zhD F) 122 (.pointer (gO ⟨F.G,0,gP⟩)) by
    have:=sf_orc hok;rwa [bz,bx,bu,aF] at this)
   have hbO:Blk ((we.setCell G (.int kA (L:Int))).setCell ⟨G,1,gP⟩ (.func (.func 122) #[kV (gO ⟨F.G,0,gP⟩)] #[])) G 83 #[.int kA (L:Int),.func (.func 122) #[kV (gO ⟨F.G,0,gP⟩)] #[]]:=by
    simpa using (bG.ab 0 (.int kA (L:Int))).ab 1 (.func (.func 122) #[kV (gO ⟨F.G,0,gP⟩)] #[])
   have hjO:=hO.out.ok.keep dm hf (fun k hk e=>by have e':k=G:=e;subst e';exact⟨oM,hSG⟩);exact yT16a3
  ·go_simp;have O:=(dB wd).alloc (.cells #[(0:Int),.nilFunc] 83);have bG:=eO wd 83 #[(0:Int),.nilFunc];have aR:=Q.trans O;refine hK.out _ _ aR ?_;obtain⟨we,cK⟩:∃ we,wd.alloc (.cells #[(0:Int),.nilFunc] 83)=we:=⟨_,rfl⟩;rw [cK] at O bG aR ⊢;obtain⟨G,hG⟩:∃ G,Hid (wd.heap.size=G):=⟨_,za rfl⟩;rw [hG.out] at bG ⊢;clear cK;refine pT ?_;refine zb fun K hK=>?_;go_simp;refine (b5.out wd we (Z.trans Q) O).mono ?_;rintro e w4 ⟨F,S0,rfl,hok,bz,bx,bu,aF,dk,hJ,ab⟩;have hx25:=aR.trans ab;have d5:=O.size;have cF:=ab.size;have dl:=hG.out;have dR:=bG.lt;have hSG:¬ S0 G:=fun hs=>by have:=zhD.low0 hok hJ hs;omega
   replace bG:=bG.ext ab;refine hK.out _ _ ?_;refine pT ?_;refine uQ ?_;have cG:=bG.cell;have fG:=bG.frozen;refine zb fun K hK=>?_;go_simp;refine hK.out _ _ ?_;refine uQ ?_;refine zg ?_;have hf:=(dG w4 G 0 (.int kA (L:Int))).trans (dG _ G 1 (.func (.func 122) #[kV (gO ⟨F.G,0,gP⟩)] #[]));have hO:=za (show zfM wd.heap.size L (zo x p L) (zhD F) 122 (.pointer (gO ⟨F.G,0,gP⟩)) by
    have:=sf_orc hok;rwa [bz,bx,bu,aF] at this)
   have hbO:Blk ((w4.setCell G (.int kA (L:Int))).setCell ⟨G,1,gP⟩ (.func (.func 122) #[kV (gO ⟨F.G,0,gP⟩)] #[])) G 83 #[.int kA (L:Int),.func (.func 122) #[kV (gO ⟨F.G,0,gP⟩)] #[]]:=by
    simpa using (bG.ab 0 (.int kA (L:Int))).ab 1 (.func (.func 122) #[kV (gO ⟨F.G,0,gP⟩)] #[])
   have hjO:=hO.out.ok.keep hJ hf (fun k hk e=>by have e':k=G:=e;subst e';exact⟨oM,hSG⟩);exact yT16a3
 case rest =>
 obtain⟨F,S0,ee,lo,rfl,rfl,⟨dL,dU,cy⟩,hO,ar,bp,cv,aj⟩:=hcut;obtain⟨w5,dr⟩:∃ w5,w5=wc:=⟨_,rfl⟩;subst dr;have hO:=za hO;have aq:=bp.cell;have cA:=za (zhV hO.out cv oM cy hL);go_upto_region 99 with fail
 refine cA.out.mono ?_;rintro e w6 ⟨S6,a2,T⟩;rcases T with ⟨cz,rfl⟩|⟨bS,bq,R0,C0,ch,cg,cC,rfl,cn⟩
 ·obtain⟨r,hr⟩:=zhT L (zo x p L);rw [hr] at cz;cases cz
 obtain⟨w7,U0⟩:∃ x,Hid (w6.alloc (.cells #[fQ R0 bS.length ch,fQ C0 bq.length cg] 90)=x):=⟨_,za rfl⟩;have i:=eM U0.out;have bj:Ext w6 w7:=((dB _).alloc _).trans (Ext.eq_ U0.out);obtain⟨bt,l⟩:∃ g,Hid (g=w6.heap.size):=⟨_,za rfl⟩;have cm:=za (fun (q:Nat) (hq:w6.heap.size<=q)=>zbs.fresh hO.out.ok a2.j hq);go_upto_region 6 with fail
 rw [<- l.out] at i ⊢;rw [U0.out] at *;have C:=za (show ∀ q:Nat,S0 q->w2.heap.size<=q from fun q h=>by have:=hO.out.ok.low cv q h;omega);have cw:=za ((a2.ext hO.out.ok bj).more hO.out.ok (show 0+21840<=21840+30000*0 by omega));obtain⟨o0,a4⟩:∃ o0:Option (List ByteArray × List ByteArray),Hid ((zac L (zo x p L) [⟨#[]⟩] 11 [⟨#[]⟩]).map (fun r=>(r,[(⟨#[]⟩:ByteArray)]))=o0):=⟨_,za rfl⟩;have aL:o0=gO (bS,bq):=a4.out.symm.trans cC;have bd:=za (show zjq L (zo x p L) 0 o0 by rw [<- a4.out];exact zjq.start L (zo x p L));have be:=za (show chT x y z p L (12 - 0) 0 o0=S by rw [ct.out,<- a4.out]);have bf:o0.isSome=kC:=by rw [aL];rfl
 have bg:=za (show TabV3 w7 S6 w5.heap.size bt o0 from ⟨cm.out bt (oH l.out),.inr ⟨bS,bq,R0,C0,ch,cg,aL,i,cn.ext bj⟩⟩);have dZ:=Z.size;have d0:=ah.size;have d3:=aj.size;have d4:=a2.size;have dP:=b4.lt;have dQ:=b8.lt;have B4:=za ((b4.ext ah).ext aj);have B8:=za ((b8.ext ah).ext aj);have aY:=za bp;have dl:w.heap.size<=w5.heap.size:=(Z.trans aj).size;have aU:=za (Z.trans aj);clear dw cX bh aq b4 b8 bp cn i a2 cA cH cC;go_wp2_with fail
 go_loopw [10,11,12,13,14,15,16,17] (fun v10 v11 _ _ _ _ _ _ wr=>∃ (r:Nat) (q:Option (List ByteArray × List ByteArray)) (S1:Nat->Prop),v10=.bool q.isSome/\v11=.int kA ((r:Int)+1)/\r<=12/\Hid (Kp (zhD F) (21840+30000*r) S0 w5 wr S1)/\Hid (TabV3 wr S1 w5.heap.size bt q)/\Hid (zjq L (zo x p L) r q)/\Hid (chT x y z p L (12 - r) r q=S)) (fun _ v11 _ _ _ _ _ _ _=>14 - (intOf v11).toNat)
 case atStart=>exact⟨0,o0,S6,by rw [bf],rfl,dH _,cw,bg,bd,be⟩
 case round =>
  clear cw bg bd be bf aL a4;obtain⟨r,q,S1,rfl,rfl,hr,ax,cI,a3,bF⟩:=hrel;have af:=(ax.out.blk B8.out (fun h=>by have:=C.out _ h;omega)).1;cases q with
  |none =>
   have hv:=za (show S=⟨2,noA,noA,⟨#[]⟩,r⟩ by
    rw [<- bF.out];cases h12:12 - r with
    |zero=>rfl
    |succ f=>rfl)
   have du:Ext w wr:=aU.out.frm ax.out.frm (fun q hq hs=>by have:=C.out q hs;omega);have k8:=af.cell;have f8:=af.frozen;go_wp2_with fail
   have D:=vc_fin du af rfl oM (.int kA 2) (.int kA 0) (fQ gP 0 0) (fQ gP 0 0) (.int kA 0) (fQ gP 0 0) (fQ gP 0 0) (.string ⟨#[]⟩) (.int kA r);have cf:=D.1.cell;have Hx:=za D.2.2;clear D k8 f8 af;generalize ((((((((wr.setCell ⟨w.heap.size+1,0,gP⟩ (2:Int)).setCell ⟨w.heap.size+1,1,gP⟩ (0:Int)).setCell ⟨w.heap.size+1,2,gP⟩ ()).setCell ⟨w.heap.size+1,3,gP⟩ ()).setCell ⟨w.heap.size+1,4,gP⟩ (0:Int)).setCell ⟨w.heap.size+1,5,gP⟩ ()).setCell ⟨w.heap.size+1,6,gP⟩ ()).setCell ⟨w.heap.size+1,7,gP⟩ (.string ⟨#[]⟩)).setCell ⟨w.heap.size+1,8,gP⟩ r=X at *;exact bodyPost_ret (v:=kO #[(2:Int),(0:Int),(),(),(0:Int),(),(),kU ⟨#[]⟩,r]) (by simp [results,Tryz.results16,go_sem,cf]) rfl (by
    rw [hv.out];exact⟨gP,0,0,gP,0,0,gP,0,0,gP,0,0,w.heap.size,rfl,zhq _ _ _,zbU _ _,dD _,Hx.out⟩)
  |some tab =>
   obtain⟨rs,cs⟩:=tab;obtain⟨hg1,dn⟩:=cI.out;rcases dn with ⟨h0,_⟩|⟨eo,ek,R,C1,cr,cc,h0,bB,bK⟩
   ·cases h0
   obtain⟨rfl,rfl⟩:=Prod.mk.inj (kS h0);obtain⟨hI,a0⟩:=a3.out.tab rs cs rfl;have dS:w5.heap.size<=wr.heap.size:=ax.out.size;have bA:=za (zeG hO.out ax.out.j oM bK hI a0 oM hL);have bL:=za (zbe hI a0 hL);obtain⟨a,co⟩:∃ a,Hid (zcX L (zo x p L) rs cs=a):=⟨_,za rfl⟩;rw [co.out] at bA bL;have aG:=ax.out.blk aY.out ar;have aq:=aG.1.cell;have aV:=bB.cell;have b7:=za bK;have bn:=za bB;clear cI bK bB h0 af;go_upto_region 11 with (go_at_call 51;refine bA.out.mono ?_;rintro e w8 ⟨S2,AA,az,an,ac,aD,av,rfl,ck,aw⟩)
   have bC:=ax.out.trans aw;have cu:=za (aw.out bn.out.lt hg1);have dO:=za (fun (q:Nat) (hq:w8.heap.size<=q)=>zbs.fresh hO.out.ok bC.j hq);have dT:=aw.size;generalize U0:w8.alloc _=w9 at *;obtain⟨I,cq⟩:=Ext.x1_ U0;have aK:=za (bC.ext hO.out.ok I);have aE:=za (ck.ext I);have a8:=za ((aw.blk bn.out hg1).1.ext I);have a9:=za ((b7.out.kp aw).ext I);clear U0;have ad:=za (show Ext w w9 from aK.out.toExt aU.out (fun q hs=>by have:=C.out q hs;omega));have c5:=za (fun W (hW:Ext w9 W)=>zda (c:=c1) (d1:=ac) (d1':=av) (d2:=d) (d2':=d') (HX.out _ (ad.out.trans hW)) (aE.out.own_.reads.ext hW) (HP.out _ (ad.out.trans hW)) (b6.out _ (ad.out.trans hW)));have aA:=za (fun W (hW:Ext w9 W)=>c4.out W (ad.out.trans hW) a AA an ac az aD av _ _ (aE.out.own_.reads.ext hW));have bm:=fun W (hW:Ext w9 W)=>b2.out W (ad.out.trans hW);have db:=(aK.out.blk B4.out (fun h=>by have:=C.out _ h;omega)).1;have k4:=db.cells;have bQ:=cq.cells;have aQ:=dB w9;clear bA ck aw bC b7 bn aq aV aG;refine uR (fun X=>Ext w9 X) [5] (zx.of [0,1,2,3,4,5,6,7,8,9,10]) ?_;refine uQ ?_;refine zb fun K hK=>?_;go_simp;refine (c5.out _ aQ.drew).mono (mQ fun E M=>?_);replace M:Ext w9 E:=aQ.drew.trans M;refine hK.out _ _ ?_;refine pT ?_;refine uQ ?_;refine zg ?_;have dX:r<12:=by have:=a3.out.more rs cs rfl;have:=hI.r12;omega
   have Y:=za (show (if (zaQ x y z p L a).2.1=0 then (⟨0,a,(zaQ x y z p L a).2.2,⟨#[]⟩,r+1⟩:Vc) else if (zaQ x y z p L a).2.1=2 then ⟨2,noA,noA,⟨#[]⟩,r+1⟩ else if (zaQ x y z p L a).2.1=1 then ⟨1,noA,noA,zY [x,y,z] p,r+1⟩ else chT x y z p L (11 - r) (r+1) (zaD L (zo x p L) rs cs (zaQ x y z p L a).1))=S by
    rw [<- bF.out,show 12 - r=(11 - r)+1 by omega,chT,co.out])
   clear bF;have a6:=za (zdg Hv.out.1 bL.out Hv.out.2.2.2);have a5:=za (zhy Hv.out.2.1 Hv.out.2.2.1 bL.out);have bM:=za (vpT_size y z a).2;have bb:=(aK.out.blk B8.out (fun h=>by have:=C.out _ h;omega)).1;cases hub:zby x a p with
   |false =>
    obtain⟨v,cJ⟩:∃ v,Hid (vpT y z a=v):=⟨_,za rfl⟩;rw [cJ.out] at a5 bM aA;have ao:=za (show zaQ x y z p L a=if v.code=0 then (⟨#[]⟩,0,v.asm) else if v.code=2 then (⟨#[]⟩,2,noA) else (zay v.tr L,if zo x p L (zay v.tr L)=kC then -1 else 1,noA) by unfold zaQ;rw [if_neg (by simp [hub]),cJ.out]);have cY:=fun W (hW:Ext E W)=>bm W (M.trans hW);have ci:=fun W (hW:Ext E W)=>bQ W (M.trans hW);have aP:=dB E;have aB:=za (fun W (hW:Ext E W)=>aA.out W (M.trans hW));clear bm k4 bQ aQ;go_upto_region 13 with fail
    go_cut [15] (fun v15 wx=>∃ (G:Nat) (Z1:Option Addr) (z1 y1:Nat) (Z2:Option Addr) (z2 y2:Nat),v15=.pointer (gO G)/\E.heap.size<=G/\Blk wx G 42 #[v.code,v.asm.al,fQ Z1 z1 y1,fQ Z2 z2 y2,v.tr,v.ro]/\zM wx E.heap.size Z1 z1 y1 Z2 z2 y2 v.asm/\Ext E wx)
    case first =>
     clear aA ao Y a6 a5 bM bb;refine uR (fun X=>Ext E X) [7,9] (zx.app [0,1,2,3,4,5,6] (zx.two 7 (zx.of [8,9]) 8 (zx.of [7,9]))) ?_;refine uQ ?_;have Q:Ext E E.drew:=aP.drew;have hsd:=Q.size;generalize E.drew=wd at *;refine zm (fun K hK=>?_) (fun K hK=>?_)
     ·go_simp;refine (aB.out _ Q).mono ?_;rintro e aW ⟨Z1,z1,y1,Z2,z2,y2,rfl,ho,aa⟩;refine hK.out _ _ (Q.trans aa) ?_;refine pT ?_;refine ze fun K hK=>?_;go_simp;have O:=(dB aW).alloc (.cells #[(0:Int),(0:Int),(),(),kU ⟨#[]⟩,(0:Int)] 42);have ai:=(Q.trans aa).trans O;have hG:E.heap.size<=aW.heap.size:=(Q.trans aa).size;have aN:=(ho.ext O).less hsd;refine hK.out _ _ ai ?_;generalize U0:aW.alloc _=J at *;have bG:=eM U0;clear U0;generalize aW.heap.size=G at *;refine pT ?_;have cG:=bG.cell;have fG:=bG.frozen;refine zb fun K hK=>?_;go_simp;refine hK.out _ _ ?_;refine zg ?_;have hf:=zdD J G (.int kA v.code) (.int kA v.asm.al) (fQ Z1 z1 y1) (fQ Z2 z2 y2) (.string v.tr) (.int kA v.ro);have bV:Blk ((((((J.setCell G v.code).setCell ⟨G,1,gP⟩ v.asm.al).setCell ⟨G,2,gP⟩ (fQ Z1 z1 y1)).setCell ⟨G,3,gP⟩ (fQ Z2 z2 y2)).setCell ⟨G,4,gP⟩ v.tr).setCell ⟨G,5,gP⟩ v.ro) G 42 #[.int kA v.code,.int kA v.asm.al,fQ Z1 z1 y1,fQ Z2 z2 y2,kU v.tr,.int kA v.ro]:=by
       exact yT16a6
      have Hf:=za (And.intro hG (And.intro bV (And.intro (aN.aq bG hf dM) (ai.frm hf (fun k hk e=>oM)))));clear hf bV aN ho ai cG fG bG;go_wp2_with fail
      go_meet;exact⟨G,Z1,z1,y1,Z2,z2,y2,rfl,Hf.out⟩
     ·go_simp;have O:=(dB wd).alloc (.cells #[(0:Int),(0:Int),(),(),kU ⟨#[]⟩,(0:Int)] 42);have bG:=eO wd 42 #[(0:Int),(0:Int),(),(),kU ⟨#[]⟩,(0:Int)];have ai:=Q.trans O;refine hK.out _ _ ai ?_;generalize wd.alloc _=aW at *;generalize wd.heap.size=G at *;refine pT ?_;refine zb fun K hK=>?_;go_simp;refine (aB.out _ ai).mono ?_;rintro e J ⟨Z1,z1,y1,Z2,z2,y2,rfl,ho,aa⟩;have cN:=ai.trans aa;have aN:=ho.less ai.size;have hG:=hsd;replace bG:=bG.ext aa;refine hK.out _ _ ?_;refine pT ?_;have cG:=bG.cell;have fG:=bG.frozen;refine zb fun K hK=>?_;go_simp;refine hK.out _ _ ?_;refine zg ?_;have hf:=zdD J G (.int kA v.code) (.int kA v.asm.al) (fQ Z1 z1 y1) (fQ Z2 z2 y2) (.string v.tr) (.int kA v.ro);have bV:Blk ((((((J.setCell G v.code).setCell ⟨G,1,gP⟩ v.asm.al).setCell ⟨G,2,gP⟩ (fQ Z1 z1 y1)).setCell ⟨G,3,gP⟩ (fQ Z2 z2 y2)).setCell ⟨G,4,gP⟩ v.tr).setCell ⟨G,5,gP⟩ v.ro) G 42 #[.int kA v.code,.int kA v.asm.al,fQ Z1 z1 y1,fQ Z2 z2 y2,kU v.tr,.int kA v.ro]:=by
       exact yT16a6
      have Hf:=za (And.intro hG (And.intro bV (And.intro (aN.aq bG hf dM) (cN.frm hf (fun k hk e=>oM)))));clear hf bV aN ho cN cG fG bG;go_wp2_with fail
      go_meet;exact⟨G,Z1,z1,y1,Z2,z2,y2,rfl,Hf.out⟩
    case rest =>
    obtain⟨ef,Z1,z1,y1,Z2,z2,y2,rfl,dN,da,cD,au⟩:=hcut;obtain⟨J,bN⟩:∃ J,J=wc:=⟨_,rfl⟩;subst bN;have t:=M.trans au;have bH:=M.size;have dY:=I.size;have dv:=da.cells;have di:=fun W (hW:Ext J W)=>ci W (au.trans hW);have ds:=dB J;have aS:=za (ad.out.trans t);clear cY ci aP aB;have u:=bb.ext t
    by_cases hv0:v.code=0
    ·have hv:=za (show S=⟨0,a,v.asm,⟨#[]⟩,r+1⟩ by
      rw [<- Y.out,ao.out,if_pos hv0,if_pos rfl])
     have e0:(v.code==0)=kC:=by simpa using hv0
     have dp:=za ((aE.out.own_.high).ext t);have k8:=u.cell;have f8:=u.frozen;go_wp2_with fail
     have D:=vc_fin aS.out u rfl oM (.int kA 0) (.int kA a.al) (fQ AA an ac) (fQ az aD av) (.int kA v.asm.al) (fQ Z1 z1 y1) (fQ Z2 z2 y2) (.string ⟨#[]⟩) (.int kA ((r:Int)+1));have cf:=D.1.cell;have Hx:=za D.2.2;have c6:=za ((dp.out.frm D.2.1 (fun b h1 h2 e=>by have e':b=w.heap.size+1:=e;omega)).wide (show w.heap.size<=wr.heap.size by omega) (show w9.heap.size<=E.heap.size from bH));have c7:=za (cD.keep D.2.1 (fun b h1 e=>by have e':b=w.heap.size+1:=e;omega));clear D k8 f8 u;generalize ((((((((J.setCell ⟨w.heap.size+1,0,gP⟩ (0:Int)).setCell ⟨w.heap.size+1,1,gP⟩ a.al).setCell ⟨w.heap.size+1,2,gP⟩ (fQ AA an ac)).setCell ⟨w.heap.size+1,3,gP⟩ (fQ az aD av)).setCell ⟨w.heap.size+1,4,gP⟩ v.asm.al).setCell ⟨w.heap.size+1,5,gP⟩ (fQ Z1 z1 y1)).setCell ⟨w.heap.size+1,6,gP⟩ (fQ Z2 z2 y2)).setCell ⟨w.heap.size+1,7,gP⟩ (.string ⟨#[]⟩)).setCell ⟨w.heap.size+1,8,gP⟩ (.int kA ((r:Int)+1))=X at *;exact bodyPost_ret (v:=kO #[(0:Int),a.al,fQ AA an ac,fQ az aD av,v.asm.al,fQ Z1 z1 y1,fQ Z2 z2 y2,kU ⟨#[]⟩,((r:Int)+1:Int)]) (by simp [results,Tryz.results16,go_sem,cf]) rfl (by
      rw [hv.out];exact⟨AA,an,ac,az,aD,av,Z1,z1,y1,Z2,z2,y2,E.heap.size,sM,c6.out,c7.out,oM,Hx.out⟩)
    ·by_cases hv2:v.code=2
     ·have hv:=za (show S=⟨2,noA,noA,⟨#[]⟩,r+1⟩ by
       rw [<- Y.out,ao.out,if_neg hv0,if_pos hv2,if_neg (show ¬ ((2:Int)=0) by decide),if_pos (show (2:Int)=2 from rfl)])
      have e0:(v.code==0)=kK:=by simpa using hv0
      have e2:(v.code==2)=kC:=by simpa using hv2
      have k8:=u.cell;have f8:=u.frozen;go_wp2_with fail
      have D:=vc_fin aS.out u rfl oM (.int kA 2) (.int kA 0) (fQ gP 0 0) (fQ gP 0 0) (.int kA 0) (fQ gP 0 0) (fQ gP 0 0) (.string ⟨#[]⟩) (.int kA ((r:Int)+1));have cf:=D.1.cell;have Hx:=za D.2.2;clear D k8 f8 u;generalize ((((((((J.setCell ⟨w.heap.size+1,0,gP⟩ (2:Int)).setCell ⟨w.heap.size+1,1,gP⟩ (0:Int)).setCell ⟨w.heap.size+1,2,gP⟩ ()).setCell ⟨w.heap.size+1,3,gP⟩ ()).setCell ⟨w.heap.size+1,4,gP⟩ (0:Int)).setCell ⟨w.heap.size+1,5,gP⟩ ()).setCell ⟨w.heap.size+1,6,gP⟩ ()).setCell ⟨w.heap.size+1,7,gP⟩ (.string ⟨#[]⟩)).setCell ⟨w.heap.size+1,8,gP⟩ (.int kA ((r:Int)+1))=X at *;exact bodyPost_ret (v:=kO #[(2:Int),(0:Int),(),(),(0:Int),(),(),kU ⟨#[]⟩,((r:Int)+1:Int)]) (by simp [results,Tryz.results16,go_sem,cf]) rfl (by
       rw [hv.out];exact⟨gP,0,0,gP,0,0,gP,0,0,gP,0,0,w.heap.size,by simp [noA],zhq _ _ _,zbU _ _,dD _,Hx.out⟩)
     ·have e0:(v.code==0)=kK:=by simpa using hv0
      have e2:(v.code==2)=kK:=by simpa using hv2
      have ap:=zcn a5.out L;have ak:(zay v.tr L).size<=4000:=by have:=zdU v.tr L;have:=bM.out;omega
      have aO:=za (fun W=>zcT (s:=v.tr) (a:=L) (w:=W) a5.out ba);obtain⟨zz,hz⟩:∃ zz,Hid (zay v.tr L=zz):=⟨_,za rfl⟩;rw [hz.out] at ap ak aO;have bc:=za (show zaQ x y z p L a=(zz,if zo x p L zz=kC then -1 else 1,noA) by rw [ao.out,if_neg hv0,if_neg hv2,hz.out]);have aZ:=za ap;clear ap;go_upto_region 99 with fail
      refine (aO.out _).mono (mQ fun cQ cM=>?_);have U:=t.trans cM;have aI:=za (aK.out.ext hO.out.ok U);have cp:=za (hO.out.ask _ cQ S2 zz aI.out.j oM aZ.out oM);have aq:=(aI.out.blk aY.out ar).1.cell;clear dv di;go_upto_region 99 with fail
      refine cp.out.mono ?_;rintro e bU ⟨S4,rfl,a1⟩;have V:=za (aI.out.trans a1);have aT:=za (show Ext w bU from V.out.toExt aU.out (fun q hs=>by have:=C.out q hs;omega));have i:=a1.blk (a8.out.ext U) cu.out;have c8:=za ((a9.out.ext U).kp a1);have dq:=a1.size;clear aq;cases hsf:zo x p L zz with
      |false =>
       have hv:=za (show S=⟨1,noA,noA,zY [x,y,z] p,r+1⟩ by
        rw [<- Y.out,bc.out,if_neg (show ¬ zo x p L zz=kC by rw [hsf];decide),if_neg (show ¬ ((1:Int)=0) by decide),if_neg (show ¬ ((1:Int)=2) by decide),if_pos (show (1:Int)=1 from rfl)])
       have c0:=za (cZ.out bU aT.out);have cd:=(V.out.blk B4.out (fun h=>by have:=C.out _ h;omega)).1;have k4:=cd.cells;have dt:=dB bU;have dd:=(V.out.blk B8.out (fun h=>by have:=C.out _ h;omega)).1;generalize zY [x,y,z] p=bw at *;go_upto_region 99 with fail
       refine c0.out.mono (mQ fun wF cO=>?_);have u:=dd.ext cO;clear k4;have k8:=u.cell;have f8:=u.frozen;go_wp2_with fail
       have D:=vc_fin (aT.out.trans cO) u rfl oM (.int kA 1) (.int kA 0) (fQ gP 0 0) (fQ gP 0 0) (.int kA 0) (fQ gP 0 0) (fQ gP 0 0) (.string bw) (.int kA ((r:Int)+1));have cf:=D.1.cell;have Hx:=za D.2.2;clear D k8 f8 u;generalize ((((((((wF.setCell ⟨w.heap.size+1,0,gP⟩ (1:Int)).setCell ⟨w.heap.size+1,1,gP⟩ (0:Int)).setCell ⟨w.heap.size+1,2,gP⟩ ()).setCell ⟨w.heap.size+1,3,gP⟩ ()).setCell ⟨w.heap.size+1,4,gP⟩ (0:Int)).setCell ⟨w.heap.size+1,5,gP⟩ ()).setCell ⟨w.heap.size+1,6,gP⟩ ()).setCell ⟨w.heap.size+1,7,gP⟩ bw).setCell ⟨w.heap.size+1,8,gP⟩ (.int kA ((r:Int)+1))=X at *;exact bodyPost_ret (v:=kO #[(1:Int),(0:Int),(),(),(0:Int),(),(),bw,((r:Int)+1:Int)]) (by simp [results,Tryz.results16,go_sem,cf]) rfl (by
        rw [hv.out];exact⟨gP,0,0,gP,0,0,gP,0,0,gP,0,0,w.heap.size,by simp [noA],zhq _ _ _,zbU _ _,dD _,Hx.out⟩)
      |true =>
       have dx:=(V.out.blk aY.out ar).1.cell;have aV:=i.1.cell;have bD:=za (zdr (x:=zz) hO.out V.out.j oM c8.out hI a0 (by have:=U.size;have:=I.size;omega) hL aZ.out ak);go_upto_region 99 with fail
       refine bD.out.mono ?_;rintro e ep ⟨S3,aJ,T⟩;have ag:=za ((V.out.trans aJ).more hO.out.ok (show 21840+30000*r+1692+1+27840<=21840+30000*(r+1) by omega));have ae:=za (show chT x y z p L (12 - (r+1)) (r+1) (zaD L (zo x p L) rs cs zz)=S by
        rw [<- Y.out,bc.out,if_pos hsf,if_neg (show ¬ ((-1:Int)=0) by decide),if_neg (show ¬ ((-1:Int)=2) by decide),if_neg (show ¬ ((-1:Int)=1) by decide),show 12 - (r+1)=11 - r by omega])
       have H:=za (a3.out.ao zz);have n:=aJ.blk i.1 i.2;have dy:=n.1.cell;have dj:=n.1.frozen;have cx:=i.1.lt;clear aV dx;rcases T with ⟨hn,rfl⟩|⟨bT,br,R2,C2,dh,dg,hn,rfl,bI⟩
       ·rw [hn] at H ae;go_wp2_with fail
        go_roundw
        case rel=>exact⟨r+1,gP,S3,rfl,gM,oM,za ((ag.out.cell hO.out.ok (oH l.out) (oH l.out) n.2 0 _).cell hO.out.ok (oH l.out) (oH l.out) n.2 1 _),za ⟨n.2,.inl ⟨rfl,_,_,(n.1.ab 0 _).ab 1 _⟩⟩,H,ae⟩
        case measure=>exact uM
       ·rw [hn] at H ae;have bJ:=za (zfa (base:=w5.heap.size) n.1 n.2 bI (by have:=U.size;have:=I.size;omega) oM);go_wp2_with fail
        go_roundw
        case rel=>exact⟨r+1,gO (bT,br),S3,rfl,gM,oM,za ((ag.out.cell hO.out.ok (oH l.out) (oH l.out) n.2 0 _).cell hO.out.ok (oH l.out) (oH l.out) n.2 1 _),bJ,H,ae⟩
        case measure=>exact uM
   |true =>
    have ao:=za (show zaQ x y z p L a=(zay (zaI x a p) L,-1,noA) by unfold zaQ;rw [if_pos hub]);have ap:=zcn a6.out.1 L;have ak:(zay (zaI x a p) L).size<=4000:=by have:=zdU (zaI x a p) L;have:=a6.out.2;omega
    have aO:=za (fun W=>zcT (s:=zaI x a p) (a:=L) (w:=W) a6.out.1 ba);obtain⟨zz,hz⟩:∃ zz,Hid (zay (zaI x a p) L=zz):=⟨_,za rfl⟩;rw [hz.out] at ap ak ao aO;have aZ:=za ap;clear ap bm k4 bQ;go_upto_region 99 with fail
    refine (aO.out _).mono (mQ fun J bO=>?_);have t:=M.trans bO;have aH:=za (aK.out.ext hO.out.ok t);have bD:=za (zdr (x:=zz) hO.out aH.out.j oM (a9.out.ext t) hI a0 (by have:=t.size;have:=I.size;omega) hL aZ.out ak);have aq:=(aH.out.blk aY.out ar).1.cell;have aC:=za (a8.out.ext t);have aV:=aC.out.cell;go_upto_region 99 with fail
    refine bD.out.mono ?_;rintro e cQ ⟨S3,aJ,T⟩;have ag:=za ((aH.out.trans aJ).more hO.out.ok (show 21840+30000*r+1692+27840<=21840+30000*(r+1) by omega));have ae:=za (show chT x y z p L (12 - (r+1)) (r+1) (zaD L (zo x p L) rs cs zz)=S by
     rw [<- Y.out,ao.out,if_neg (show ¬ ((-1:Int)=0) by decide),if_neg (show ¬ ((-1:Int)=2) by decide),if_neg (show ¬ ((-1:Int)=1) by decide),show 12 - (r+1)=11 - r by omega])
    have H:=za (a3.out.ao zz);have i:=aJ.blk aC.out cu.out;have dy:=i.1.cell;have dj:=i.1.frozen;have cx:=aC.out.lt;clear aV aq;rcases T with ⟨hn,rfl⟩|⟨bT,br,R2,C2,dh,dg,hn,rfl,bI⟩
    ·rw [hn] at H ae;go_wp2_with fail
     go_roundw
     case rel=>exact⟨r+1,gP,S3,rfl,gM,oM,za ((ag.out.cell hO.out.ok (oH l.out) (oH l.out) i.2 0 _).cell hO.out.ok (oH l.out) (oH l.out) i.2 1 _),za ⟨i.2,.inl ⟨rfl,_,_,(i.1.ab 0 _).ab 1 _⟩⟩,H,ae⟩
     case measure=>exact uM
    ·rw [hn] at H ae;have bJ:=za (zfa (base:=w5.heap.size) i.1 i.2 bI (by have:=t.size;have:=I.size;omega) oM);go_wp2_with fail
     go_roundw
     case rel=>exact⟨r+1,gO (bT,br),S3,rfl,gM,oM,za ((ag.out.cell hO.out.ok (oH l.out) (oH l.out) i.2 0 _).cell hO.out.ok (oH l.out) (oH l.out) i.2 1 _),bJ,H,ae⟩
     case measure=>exact uM
theorem impl_VerifyChain (h:zeo w lo hi A n ss)(hp:zF w lo1 hi1 B m B' m' p)(hT:Tab w)(hhi:hi<=w.heap.size)(hhi1:hi1<=w.heap.size) :
  kQ kN 16 #[fQ A n c,kO #[p.al,fQ B m d,fQ B' m' d']] w (RetVcH w (vcT ss p)):=by
 cases h3:three ss p
 ·rw [zil h3];exact zgC h hp h3
 ·obtain⟨x,y,z,rfl⟩:=zfb h3;obtain⟨q,a,f⟩:=zeT h3;have e:vcT [x,y,z] p=chT x y z p q 12 0 ((zac q (zo x p q) [⟨#[]⟩] 11 [⟨#[]⟩]).map fun r=>(r,[⟨#[]⟩])):=by
   unfold vcT;dsimp only;rw [a,if_pos oM,Int.toNat_natCast]
  rw [e];obtain rfl:n=3:=h.1;obtain⟨b,o,s,i,g,j,rfl,_,_,_⟩:=h.sys (k:=0) oM;exact zgD h hp h3 a oM hT hhi hhi1
end
def shA (al p k:Nat) (a:Aut):Prop:=a.al=al/\a.next.length=p/\a.acc.length=p/\∀ l∈a.next,l.length=k
theorem zgo {a:Nat}(h:Rd w R M)(hM:M<=900000000)(ha:a<64)(hp:p<=16) :
  kQ kN 164 #[kV (gO R),a,p] w (zix R (M+400) (shA a p (letters a 6).length) w):=by
 have al:Sm a:=tM;have hRl:=h.lt
 go_enter Tryz.func164,Tryz.ntmps164
 have hxz:=(dB w).alloc (.cells #[(0:Int),(),()] 27);have bz:=eO w 27 #[(0:Int),(),()];have Q:=(dB (w.alloc (.cells #[(0:Int),(),()] 27))).alloc (.cells #[a,(),()] 27);have bG:=eO (w.alloc (.cells #[(0:Int),(),()] 27)) 27 #[a,(),()];have an:=bz.lt;have am:(w.alloc (.cells #[(0:Int),(),()] 27)).heap.size=w.heap.size+1:=sM;rw [am] at bG;go_upto_region 2 with fail
 generalize (w.alloc _).alloc _=w2 at *;generalize w.alloc _=w1 at *;go_wp2_with fail
 refine (zai a al _).mono ?_;rintro e w3 ⟨B,d,rfl,-,F⟩;have zks:zcf w1 w3 R (w.heap.size+1) M a (fQ gP 0 0) [] [] (fQ gP 0 0) []:=⟨bG.ext F,World.ownsRow_nil _ _ _ _,zC.nil _ _,World.ownsRow_nil _ _ _ _,h.ext ((hxz.trans Q).trans F),(Q.trans F).dr,oM,oM⟩;have aA:=zB a 6;clear bG F Q;generalize (letters a 6).length=k at *;go_wp2_with fail
 go_loopw [9] (fun iv wr=>∃ (i:Nat) (v:kL) (f:List kL) (G:List (List Int)) (Z:kL) (o:List Bool),i<=p/\iv=.int kA (i:Nat)/\zcf w1 wr R (w.heap.size+1) (M+i*20) a v f G Z o/\G.length=i/\o.length=i/\Hid (∀ l∈G,l.length=k)) (fun iv _=>p - (intOf iv).toNat)
 case atStart=>exact⟨0,_,[],[],_,[],dH _,rfl,zks,rfl,rfl,za (fun l hl=>by simp at hl)⟩
 case round =>
  clear zks;obtain⟨i,v,f,G,Z,o,hi,rfl,zks,t,E,S⟩:=hrel
  by_cases hip:i<p
  ·have u:=za zks.low;have hK:=za (show w1.heap.size<=wr.heap.size from zks.dr.size);have h0:=World.ownsRow_made (base:=wr.heap.size) (e:=3) (size:=1) wr #[] 0 (dD _) (dH _) rfl;have O:=(dB wr).alloc (.cells #[] 3);have g:=zks.ext O;go_upto_region 7 with fail
   clear zks;obtain⟨H,Y⟩:∃ H,H=wr:=⟨_,rfl⟩;rw [<- Y] at h0 u hK g O ⊢;clear Y;generalize H.alloc _=w4 at *;go_wp2_with fail
   go_loopw [10,11] (fun rv jv wr=>∃ (j:Nat) (l:List Int),j<=k/\jv=.int kA (j:Nat)/\zcf w1 wr R (w.heap.size+1) (M+i*20+j) a v f G Z o/\l.length=j/\wr.ownsRow H.heap.size 3 1 rv j (ints l)/\Hid (H.heap.size<=wr.heap.size)) (fun _ jv _=>k - (intOf jv).toNat)
   case atStart=>exact⟨0,[],dH _,rfl,g,rfl,h0,za O.size⟩
   case round =>
    clear g h0;obtain⟨j,l,hj,rfl,zks,s,c,ak⟩:=hrel
    by_cases hjk:j<k
    ·obtain⟨AR,cR,rfl⟩:=zi c;go_wp2_with fail
     refine (zJ zks.rd oM).mono ?_;rintro e w5 ⟨y,rfl,-,-,ah,J⟩;have I:=zks.drawn J ah;have D:=zaN c J (fun b h1 e=>by have:=zks.dr.size;have:=zks.hR;have:=hK.out;omega);have V:H.heap.size<=w5.heap.size:=dW ak.out J.size;have L:=za s;clear s zks c;go_wp2_with (at_builtin;refine zL H w5 rfl _ _ _ rfl 3 _ 1 8 Tryz.underlying110 zT rfl dM (fQ AR j cR) j (ints l) _ _ rfl rfl V D rfl (by simp [Value.oneCell']) lM oM ?_;intro g5 cap5 w6 hown6 hg6 hat6 hlt6)
     go_roundw
     case rel=>exact⟨j+1,l++[(y:Int)],oM,gM,(I.side u.out hK.out D hg6).more oM,by simp [L.out],by simpa [ints] using hown6,za (dW V hg6.size)⟩
     case measure=>exact uM
    ·obtain rfl:j=k:=oM;obtain⟨AR,cR,rfl⟩:=zi c;have cG:=zks.blk.cell;have aj:=zks.dr.size;have C:wr.ownsRow H.heap.size 3 1 (fQ AR j cR) l.length (ints l):=by rw [s];exact c
     go_upto_region 12 with (at_builtin;refine zL w1 wr rfl _ _ _ rfl 110 _ 1 24 Tryz.underlying24 zbH rfl dM v G.length f _ _ rfl rfl aj zks.nx rfl (zaK _ _ _) lM oM ?_;intro g5 cap5 w6 hown6 hg6 hat6 hlt6;obtain⟨q1,q2,q3⟩:=zks.az u.out hK.out C hown6 hg6 hat6;have ao:=q1.out)
     rw [t] at q3;clear q1 ao q2 hown6 hg6 hat6 hlt6 c C cG zks;have T:=za (show ∀ l'∈G++[l],l'.length=j from fun l' L=>by
      rcases kY.1 L with h1|h1
      ·exact S.out l' h1
      ·rw [lA.1 h1];exact s)
     have U:(G++[l]).length=i+1:=by simp [t]
     clear s t;generalize G++[l]=aB at *;generalize f++[fQ AR j cR]=ap at *;generalize w6.setCell ⟨w.heap.size+1,1,gP⟩ (fQ (gO g5) (i+1) cap5)=w7 at *;generalize fQ (gO g5) (i+1) cap5=v7 at *;have cG:∀ W,Dr R w7 W->∀ q,W.cell? ⟨w.heap.size+1,q,gP⟩=#[Value.int kA a,v7,Z][q]?:=fun W hW=>(q3.blk.dr hW oM).cell;refine tR (fun X=>Dr R w7 X) [6,8] (Ord.of [0,1,2,3,4,5,6,7,8]) ?_;refine tQ ?_;refine zK fun K hK=>?_;go_simp;refine (zJ (n:=3) (q3.rd.ext ((dB _).drew)) oM).mono ?_;rintro e w8 ⟨z,rfl,-,-,ai,ag⟩;have r:Dr R w7 w8:=((Dr.refl R w7).drew).trans ag;have m:=q3.drawn r ai;refine hK.out _ _ r ?_;refine pT ?_;refine tQ ?_;refine zK fun K hK=>?_;go_simp;refine hK.out _ _ (r.alloc _) ?_;refine pT ?_;refine zad fun K hK=>?_
     trace_state
     refine zaB w1 w8 _ _ _ rfl 4 _ 1 1 Tryz.underlying25 zaW rfl dM Z o.length (zae o) _ _ rfl rfl m.dr.size m.acc rfl (by simp [Value.oneCell']) lM oM ?_;intro g9 cap9 w9 hown9 hg9 hat9 hlt9;refine hK.out _ _ ?_;refine pT ?_;refine tQ ?_;obtain⟨p1,p2,p3⟩:=m.ar (x:=decide (0<z)) (W':=w9) hown9 hg9 hat9;have aD:=p1.out;rw [E] at p3;refine zad fun K hK=>?_;go_simp;refine hK.out _ _ ?_;refine zaF ?_;go_wp2_with fail
     go_roundw
     case rel=>exact⟨i+1,_,_,_,_,_,oM,gM,p3.more oM,U,by simp [E],T⟩
     case measure=>exact uM
  ·obtain rfl:i=p:=oM;obtain⟨A5,c5,rfl⟩:=zi zks.nx;obtain⟨B5,d5,rfl⟩:=zi zks.acc;obtain⟨f1,f2⟩:=zks.fin (N:=M+400) (sh:=shA a i k) hxz bz rfl hRl (dD _) an oM ⟨rfl,t,E,S.out⟩;rw [t,E] at f1 f2;have cG:=zks.blk.cell;have bz5:=bz.dr zks.dr oM;have cZ:=bz5.cell;have fZ:=bz5.frozen;go_wp2_with fail
   have cf:=f2.cell;exact bodyPost_ret (v:=kO #[a,fQ A5 i c5,fQ B5 i d5]) (by simp [results,Tryz.results164,go_sem,cf]) rfl f1.out
section
variable {w0 W W':kJ}{R G M N:Nat}{al:Int}{v vA:kL}{rows:List kL}{ls:List (List Int)}{acc:List Bool}
theorem zcf.of (ho:zM W w0.heap.size A n c A' n' c' a)(hr:Rd W R M)(hd:Dr R w0 W)(hR:R<w0.heap.size) :
  ∃ rows,zcf w0 (W.alloc (.cells #[a.al,fQ A n c,fQ A' n' c'] 27)) R W.heap.size M a.al (fQ A n c) rows a.next (fQ A' n' c') a.acc:=by
 obtain⟨⟨rows,h1,d⟩,h3,f,g⟩:=ho;have b:=(dB W).alloc (.cells #[a.al,fQ A n c,fQ A' n' c'] 27);refine⟨rows,eO W _ _,zh h1 b,d.keep b.ak (fun _ _=>id),?_,hr.ext b,hd.ext b,hR,hd.size⟩;rw [<- g];exact zh f b
theorem zcf.setAcc {x:Bool}(h:zcf w0 W R G M al v rows ls (fQ (gO g) n c) acc)(hn:n=acc.length) :
  zcf w0 (W.setCell ⟨g,i,gP⟩ (.bool x)) R G M al v rows ls (fQ (gO g) n c) (acc.set i x):=by
 subst hn;have hf:=dG W g i (.bool x);have d:=(h.acc.lt g rfl).1;have a:=h.hR;have hst:=(h.acc.stored i (.bool x)).1;rw [show (zae acc).set i (.bool x)=zae (acc.set i x) by simp [zae,List.map_set]] at hst;refine⟨h.blk.frm hf (fun e=>zq h.acc h.blk dM rfl e.symm),zf h.nx hf (fun b hb hS=>?_),h.rows.frm hf (fun i' r b hr hb hS=>?_),by simpa using hst,h.rd.frm hf (fun k hk e=>oM),h.dr.ag (p:=⟨g,i,gP⟩) d _,a,h.hG⟩
 ·subst hS;exact zan h.nx h.acc dM hb rfl
 ·subst hS;obtain⟨j,_,f⟩:=h.rows.row hr;exact zan f h.acc dM hb rfl
theorem zcf.setRow {k:Nat}(h:zcf w0 W R G M al v rows ls vA acc)(hr:rows[i]?=gO (fQ (gO g) n c))(hl:ls[i]?=gO l)(hn:n=l.length) :
  zcf w0 (W.setCell ⟨g,k,gP⟩ x) R G M al v rows (ls.set i (l.set k x)) vA acc:=by
 subst hn;have hf:=dG W g k (.int kA x);have a:=h.rows.2.1 i _ l hr hl;have m:=(a.lt g rfl).1;have d:=h.hR;have hst:=(a.stored k (.int kA x)).1;rw [show (ints l).set k (.int kA x)=ints (l.set k x) by simp [ints,List.map_set]] at hst;have f:Frm (Go.Proofs.YtckbjnndaaoddaaGreatDoor.blk (gO ⟨g,0,gP⟩)) W (W.setCell ⟨g,k,gP⟩ x):=hf.mono (fun b _ hb=>⟨_,rfl,hb.symm⟩);refine⟨h.blk.frm hf (fun e=>zq a h.blk dM rfl e.symm),?_,?_,zf h.acc hf (fun b hb hS=>?_),h.rd.frm hf (fun k hk e=>oM),h.dr.ag (p:=⟨g,k,gP⟩) m _,d,h.hG⟩
 ·rw [fT];exact zf h.nx hf (fun b hb hS=>by subst hS;exact zan h.nx a dM hb rfl)
 ·have:=h.rows.ab (w':=W.setCell ⟨g,k,gP⟩ x) (j:=i) (l:=l.set k x) (A:=gO ⟨g,0,gP⟩) (c:=c) (by simpa using hr) f (by simpa using hst);exact this
 ·subst hS;exact zan h.acc a dM hb rfl
theorem zcf.row (h:zcf w0 W R G M al (fQ (gO g) n c) rows ls vA acc)(hl:ls[i]?=gO l)(hn:n=ls.length) :
  ∃ Ar cr,rows[i]?=gO (fQ Ar l.length cr)/\W.cell? ⟨g,i,gP⟩=gO (fQ Ar l.length cr)/\W.ownsRow w0.heap.size 3 1 (fQ Ar l.length cr) l.length (ints l):=by
 subst hn;have f:i<ls.length:=(kT.1 hl).1;have b:i<rows.length:=by rw [h.rows.1];exact f
 have a:rows[i]?=gO rows[i]:=dE b;have d:=h.rows.2.1 i _ l a hl;obtain⟨Ar,cr,e⟩:=zi d;rw [e] at a d;exact⟨Ar,cr,a,by rw [h.nx.cellAt i oM,a],d⟩
end
theorem zid {a:Nat}(h:Rd w R M)(hM:M<=900000000)(ha:a<64)(hp0:1<=p)(hp:p<=16) :
  kQ kN 162 #[kV (gO R),a,p] w (zix R (M+400) (shA a p (letters a 6).length) w):=by
 have hRl:=h.lt
 go_enter Tryz.func162,Tryz.ntmps162
 go_wp2_with fail
 generalize U0:w.alloc _=w1 at *;have hxz:=Ext.al_ U0;have bz:=eM U0;have T:=bz.lt;clear U0;refine (zgo (h.ext hxz) hM ha hp).mono ?_;rintro e Y ⟨b,A,n,c,A',n',c',rfl,zkr,hsh,E,B⟩;obtain⟨u,zks⟩:=zcf.of zkr E B oM;obtain⟨s1,J,L,X⟩:=hsh.out;have H:n=b.next.length:=zkr.2.1;have t:n'=b.acc.length:=zkr.2.2.2;obtain⟨ae,y,ad⟩:=b;dsimp only at *;subst s1;rw [J] at H;rw [L] at t;replace H:=H.symm;replace t:=t.symm;subst H;subst t;have hG:=B.size;clear zkr E B hsh;have V:=za X;clear X;have ak:=zB a 6;generalize (letters a 6).length=k at *;obtain⟨Q,rfl,ah,-⟩:=zW (L ▸ zks.acc) hp0;obtain⟨S,rfl,ai,-⟩:=zW (J ▸ zks.nx) hp0;have U:=za J;have S3:=za L;clear J L;go_upto_region 2 with fail
 generalize Y.alloc _=w3 at *;generalize Y.heap.size=G at *;go_wp2_with fail
 go_loopw [8] (fun iv wr=>∃ (i:Nat) (q:List Bool),i<=p/\iv=.int kA (i:Nat)/\zcf w1 wr R G (M+400) a (fQ (gO S) p c) u y (fQ (gO Q) p c') q/\Hid (q.length=p)) (fun iv _=>p - (intOf iv).toNat)
 case atStart=>exact⟨0,_,dH _,rfl,zks,S3⟩
 case round =>
  clear zks;obtain⟨i,q,hi,rfl,zks,r⟩:=hrel
  by_cases hip:i<p
  ·have cG:=zks.blk.cell;have I:=zks.acc;rw [r.out] at I;obtain⟨o0,c0⟩:=zaM I i oM;have f0:=I.frozenAt i;have o:=zks.setAcc (i:=i) (x:=decide ((i:Int)<(p:Int) - 1)) r.out.symm;clear I;go_wp2_with fail
   go_roundw
   case rel=>exact⟨i+1,_,oM,gM,o,za (by rw [fT];exact r.out)⟩
   case measure=>exact uM
  ·clear hi;have hp1:p - 1<y.length:=oH U.out;obtain⟨l0,d⟩:∃ l,y[p - 1]?=gO l:=⟨_,dE hp1⟩;have f:=za (V.out l0 (dC d));have O:=za d;have al:((p:Int) - 1).toNat=p - 1:=oM;clear d hp1;go_wp2_with fail
   go_loopw [9] (fun iv wr=>∃ (j:Nat) (F:List (List Int)) (l:List Int),j<=k/\iv=.int kA (j:Nat)/\zcf w1 wr R G (M+400) a (fQ (gO S) p c) u F (fQ (gO Q) p c') q/\Hid (F.length=p)/\Hid (∀ l∈F,l.length=k)/\Hid (F[p - 1]?=gO l)) (fun iv _=>k - (intOf iv).toNat)
   case atStart=>exact⟨0,_,_,dH _,rfl,zks,U,V,O⟩
   case round =>
    clear zks f;obtain⟨j,F,l,hj,rfl,zks,s,C,d⟩:=hrel;have f:=C.out l (dC d.out);obtain⟨Ar,cr,D,z,m⟩:=zks.row d.out s.out.symm;have cG:=zks.blk.cell;rw [f] at D z m;have HR:=za D;clear D
    by_cases hjk:j<k
    ·obtain⟨g,rfl,-,-⟩:=zW m oM;obtain⟨o0,c0⟩:=zaM m j oM;have f0:=m.frozenAt j;have o:=zks.setRow (k:=j) (x:=(p:Int) - 1) HR.out d.out f.symm;clear m;have Z:=za f;clear f;go_wp2_with fail
     go_roundw
     case rel =>
      refine⟨j+1,_,l.set j ((p:Int) - 1),oM,gM,o,za (by rw [fT];exact s.out),za (fun l' hl'=>?_),za ?_⟩
      ·rcases fU hl' with h1|h1
       ·exact C.out l' h1
       ·rw [h1,fT];exact Z.out
      ·have:=s.out;rw [fJ oM]
     case measure=>exact uM
    ·obtain⟨f1,f2⟩:=zks.fin (N:=M+400) (sh:=shA a p k) hxz bz rfl hRl (dD _) T oM ⟨rfl,s.out,r.out,C.out⟩;have bz5:=bz.dr zks.dr oM;have cZ:=bz5.cell;have fZ:=bz5.frozen;clear m f;go_wp2_with fail
     have cf:=f2.cell;exact bodyPost_ret (v:=kO #[a,fQ (gO S) p c,fQ (gO Q) p c']) (by simp [results,Tryz.results162,go_sem,cf]) rfl f1.out
def zhf:kL->ByteArray
 |.string s=>s
 |_=>⟨#[]⟩
theorem zeQ (w:kJ)  (hu:zO (us.toList.map zhf)=us.toList)(hn:us.size=n)(h:n<=1000):(w.alloc (.cells us 9)).ownsRow w.heap.size 9 1 (fQ (gO w.heap.size) n n) n (zO (us.toList.map zhf)):=by
 rw [hu];exact World.ownsRow_lit w us n (dD _) lM (by simpa using hn)
theorem reads_ints {e:TypeId}(l:List Int)(hu:us.toList=ints l)(hn:us.size=n)(hx:Ext (w.alloc (.cells us e)) w')(h63:n<=1000):Reads w' w.heap.size (w.heap.size+1) 1 (gO ⟨w.heap.size,0,gP⟩) n (ints l):=
 ⟨by rw [<- hu];simpa using hn,oM,fun _=>⟨_,rfl,dD _,sM,fun j u hj=>by
  have:=(zcA hx).cell j
  rw [zZ,eK,this]
  rw [<- hu] at hj
  simpa using hj⟩⟩
theorem zbV (l:List Int) (n:Nat) (us:Array kL)(hu:us.toList=ints l)(hn:us.size=n)(h0:0<n)(h63:n<=1000)(h:Rd w R M)(hM:M<=1000000000) :
  kQ kN 163 #[kV (gO R),fQ (gO w.heap.size) n n] (w.alloc (.cells us 3)) (RetNum R M l (w.alloc (.cells us 3))):=
 l19Rd_num (h.ext ((dB _).alloc _)) hM (reads_ints l hu hn (dB _) h63) h.lt h0
theorem ret_fill {s:Sys}(hs:zcB W R A n s)(hg:Good s)(hn:n<=L/\n<=c)(hr:Rd W R M)(hd:Dr R w W)(hB:Blk W Z 38 cs)(hR:R<w.heap.size)(hZ:w.heap.size<=Z) :
  RetG R M L w (kP (kO #[s.al,s.st,fQ A n c])) (((W.setCell Z s.al).setCell ⟨Z,1,gP⟩ s.st).setCell ⟨Z,2,gP⟩ (fQ A n c)):=by
 have hf:=zdk W Z (.int kA s.al) (.int kA s.st) (fQ A n c);exact⟨s,A,n,c,rfl,hs.far hB dM hf,hg,hn,hr.frm hf (fun k h1 h2=>oM),((hd.ag (p:=⟨Z,0,gP⟩) hZ _).ag (p:=⟨Z,1,gP⟩) hZ _).ag (p:=⟨Z,2,gP⟩) hZ _⟩
def zhz (b:Aut):Prop:=∃ a p:Nat,a<64/\1<=p/\p<=16/\shA a p (letters a 6).length b
theorem zix.mono {sh sh':Aut->Prop}{e:Ending}(h:zix R M sh w e w')(hd:Dr R w0 w)(hM:M<=N)(hs:∀ b,sh b->sh' b):zix R N sh' w0 e w':=by
 obtain⟨b,A,n,c,A',n',c',d,f,hsh,g,a⟩:=h;exact⟨b,A,n,c,A',n',c',d,f.less hd.size,za (hs b hsh.out),g.more hM,hd.trans a⟩
theorem zjw {sh:Aut->Prop}{t:TypeId}(hx:Ext w w0)(ho:zM W w0.heap.size A n c A' n' c' b)(hsh:sh b)(hr:Rd W R M)(hd:Dr R w0 W) (bz:Blk w0 Z t cs)(hc:cs.size=3)(hR:R<w.heap.size)(hZ:w.heap.size<=Z)(hM:M<=N) :
  Hid (zix R N sh w (kP (kO #[b.al,fQ A n c,fQ A' n' c'])) (((W.setCell Z b.al).setCell ⟨Z,1,gP⟩ (fQ A n c)).setCell ⟨Z,2,gP⟩ (fQ A' n' c'))) /\
  Blk (((W.setCell Z b.al).setCell ⟨Z,1,gP⟩ (fQ A n c)).setCell ⟨Z,2,gP⟩ (fQ A' n' c')) Z t #[.int kA b.al,fQ A n c,fQ A' n' c']:=by
 have a:=bz.lt;have hf:=zP W Z (.int kA b.al) (fQ A n c) (fQ A' n' c');refine⟨za ⟨b,A,n,c,A',n',c',rfl,(ho.keep hf (fun b h1 e=>oM)).less hx.size,za hsh,(hr.more hM).frm hf (fun k hk e=>oM),?_⟩,zab (bz.dr hd oM) hc _ _ _⟩;exact (((hx.dr.trans hd).ag (p:=⟨Z,0,gP⟩) hZ _).ag (p:=⟨Z,1,gP⟩) hZ _).ag (p:=⟨Z,2,gP⟩) hZ _
theorem spec_l1Some (h:Rd w R M)(hM:M<=900000000) :
  kQ kN 272 #[kV (gO R)] w (fun e w'=>∃ x:Nat,x<64/\e=kP (.int kA x)/\Rd w' R (M+1)/\Dr R w w'):=by
 go_enter Tryz.func272,Tryz.ntmps272
 go_wp2_with fail
 refine (zbV [3,7,1,5,0,6,63,2,21] 9 #[(3:Int),(7:Int),(1:Int),(5:Int),(0:Int),(6:Int),(63:Int),(2:Int),(21:Int)] rfl rfl oM oM h oM).mono ?_;rintro e w1 ⟨x,c,rfl,b,a⟩;obtain⟨y,d,rfl⟩:∃ y:Nat,y<64/\x=(y:Int):=⟨x.toNat,by simp at c;omega,by simp at c;omega⟩;clear c;go_wp2_with fail
 go_ret;exact⟨y,d,rfl,b,((Dr.refl R w).alloc _).trans a⟩
theorem yT16a1 {P:Prop}(h:P:=by
 intro e w4 hret;obtain⟨b,A,n,c,A',n',c',rfl,zkr,hsh,hr4,hd4⟩:=hret.mono (N:=M+500) (sh':=zhz) hd13 oM (fun b hb=>⟨a,p,ha,hp1,oM,hb⟩);obtain⟨f1,f2⟩:=zjw (N:=M+500) (sh:=zhz) hxz zkr hsh.out hr4 hd4 bz rfl hRl (Nat.le_refl _) (Nat.le_refl _);have bz5:=bz.dr hd4 oM;have cZ:=bz5.cell;have fZ:=bz5.frozen;go_wp2_with fail
 have cf:=f2.cell;exact bodyPost_ret (v:=.agg #[b.al,.slice A n c,.slice A' n' c']) (by simp [results,Tryz.results74,go_sem,cf]) rfl f1.out
 ):P:=h
theorem spec_l3Over {a:Nat}(h:Rd w R M)(hM:M<=800000000)(ha:a<64) :
  kQ kN 74 #[kV (gO R),a] w (zix R (M+500) zhz w):=by
 have hRl:=h.lt
 go_enter Tryz.func74,Tryz.ntmps74
 go_wp2_with fail
 generalize U0:w.alloc _=w1 at *;have hxz:=Ext.al_ U0;have bz:=eM U0;clear U0;refine (zJ (h.ext hxz) oM).mono ?_;rintro e l ⟨y,rfl,-,-,g,f⟩
 by_cases hy:y=0
 ·subst hy;go_wp2_with fail
  refine (zbV [3,2,4,1] 4 #[(3:Int),(2:Int),(4:Int),(1:Int)] rfl rfl oM oM g oM).mono ?_;rintro e k ⟨x,b,rfl,d,c⟩;obtain⟨p,hp1,i,rfl⟩:∃ y:Nat,1<=y/\y<=4/\x=(y:Int):=⟨x.toNat,by simp at b;omega,by simp at b;omega,by simp at b;omega⟩;clear b;have hd13:=(f.alloc _).trans c;go_wp2_with fail
  refine (zid d oM ha hp1 oM).mono ?_;exact yT16a1
 ·have j:((y:Int)==0)=kK:=by simp;omega
  go_wp2_with fail
  refine (zbV [2,3,1,4,5] 5 #[(2:Int),(3:Int),(1:Int),(4:Int),(5:Int)] rfl rfl oM oM g oM).mono ?_;rintro e k ⟨x,b,rfl,d,c⟩;obtain⟨p,hp1,i,rfl⟩:∃ y:Nat,1<=y/\y<=5/\x=(y:Int):=⟨x.toNat,by simp at b;omega,by simp at b;omega,by simp at b;omega⟩;clear b;have hd13:=(f.alloc _).trans c;go_wp2_with fail
  refine (zgo d oM ha oM).mono ?_;exact yT16a1
section
variable {w0 W W':kJ}{R G M N:Nat}{al:Int}{v vA:kL}{rows:List kL}{ls:List (List Int)}{acc:List Bool}
theorem zcf.setAl (h:zcf w0 W R G M al v rows ls vA acc) (x:Int):zcf w0 (W.setCell G x) R G M x v rows ls vA acc:=by
 have c:=h.hR;have a:=h.hG;have hf:=dG W G 0 (.int kA x);refine⟨by simpa using h.blk.ab 0 _,zf h.nx hf (fun b hb hS=>zq h.nx h.blk dM hb hS),h.rows.frm hf (fun i r b hr hb hS=>?_),zf h.acc hf (fun b hb hS=>zq h.acc h.blk dM hb hS),h.rd.frm hf (fun k hk e=>oM),h.dr.ag (p:=⟨G,0,gP⟩) a _,c,a⟩;obtain⟨f,_,d⟩:=h.rows.row hr;exact zq d h.blk dM hb hS
theorem zcf.setNext (h:zcf w0 W R G M al v rows ls vA acc) (ho:W.ownsRow w0.heap.size 110 1 v' 0 []):zcf w0 (W.setCell ⟨G,1,gP⟩ v') R G M al v' [] [] vA acc:=by
 have c:=h.hR;have a:=h.hG;have hf:=dG W G 1 v';exact⟨by simpa using h.blk.ab 1 _,zf ho hf (fun b hb hS=>zq ho h.blk dM hb hS),zC.nil _ _,zf h.acc hf (fun b hb hS=>zq h.acc h.blk dM hb hS),h.rd.frm hf (fun k hk e=>oM),h.dr.ag (p:=⟨G,1,gP⟩) a _,c,a⟩
theorem zcf.setMarks (h:zcf w0 W R G M al v rows ls vA acc) (ho:W.ownsRow w0.heap.size 4 1 v' 0 []):zcf w0 (W.setCell ⟨G,2,gP⟩ v') R G M al v rows ls v' []:=by
 have c:=h.hR;have a:=h.hG;have hf:=dG W G 2 v';refine⟨by simpa using h.blk.ab 2 _,zf h.nx hf (fun b hb hS=>zq h.nx h.blk dM hb hS),h.rows.frm hf (fun i r b hr hb hS=>?_),zf ho hf (fun b hb hS=>zq ho h.blk dM hb hS),h.rd.frm hf (fun k hk e=>oM),h.dr.ag (p:=⟨G,2,gP⟩) a _,c,a⟩;obtain⟨d,_,ho⟩:=h.rows.row hr;exact zq ho h.blk dM hb hS
theorem zcf.growRow {row:kL}{cap gN cN nN:Nat}(h:zcf w0 W R G M al (fQ (gO gN) nN cN) rows ls vA acc)(hn:nN=ls.length)(hr:rows[i]?=gO row)(hl:ls[i]?=gO l)
  (zkr:W'.ownsRow w0.heap.size 3 1 (fQ (gO g) (l.length+1) cap) (l.length+1) (ints l++[.int kA x])) (hg:W.grownBy W' row.ownBlock) (hat:row.ownBlock=gO g\/g=W.heap.size+1) :
  (∀ u,W.cell? ⟨G,u,gP⟩=W'.cell? ⟨G,u,gP⟩)/\Hid (W'.cell? ⟨gN,i,gP⟩=gO row)/\W'.frozen? ⟨gN,i,gP⟩=kK /\
  zcf w0 (W'.setCell ⟨gN,i,gP⟩ (fQ (gO g) (l.length+1) cap)) R G M al (fQ (gO gN) nN cN) (rows.set i (fQ (gO g) (l.length+1) cap)) (ls.set i (l++[x])) vA acc:=by
 subst hn;have y:=h.hR;have v:=h.hG;have E:i<ls.length:=(kT.1 hl).1;have s:=h.rows.2.1 i _ l hr hl;have n:Frm (fun k=>row.ownBlock=gO k) W W':=fF hg;obtain⟨z,D⟩:=h.grown s hg;have t:Blk W' G 27 #[.int kA al,fQ (gO gN) ls.length cN,vA]:=h.blk.frm n (fun e=>zq s h.blk dM e rfl);have a:W'.ownsRow w0.heap.size 110 1 (fQ (gO gN) ls.length cN) ls.length rows:=zf h.nx n (fun b hb hS=>zan h.nx s dM hb hS);have zks:W'.ownsRow w0.heap.size 4 1 vA acc.length (zae acc):=zf h.acc n (fun b hb hS=>zan h.acc s dM hb hS);have B:=(a.lt gN rfl).1;have q:=h.rows.1;have d:∀ (j:Nat) (r:kL) (b:Nat),j≠i->rows[j]?=gO r->r.ownBlock=gO b->b≠g:=fun j r b hji hj hb e=>by
  subst e;rcases hat with h1|h1
  ·exact h.rows.2.2 j i r row b hj hr hji hb h1
  ·have:=h.low j r b hj hb;omega
 have f:zC W' w0.heap.size (rows.set i (fQ (gO g) (l.length+1) cap)) (ls.set i (l++[x])):=by
  refine⟨by simp [q],fun j r m hj hm=>?_,fun j j' r r' b hj hj' hne hb=>?_⟩
  ·by_cases hji:i=j
   ·subst hji;rw [fJ oM] at hj;rw [fJ E] at hm;obtain rfl:=kS hj;obtain rfl:=kS hm;simpa [ints] using zkr
   ·rw [gI hji] at hj hm;exact zf (h.rows.2.1 j r m hj hm) n (fun b hb hS=>h.rows.2.2 j i r row b hj hr (fun e=>hji e.symm) hb hS)
  ·by_cases hji:i=j
   ·subst hji;rw [fJ oM] at hj;obtain rfl:=kS hj;rw [gI hne] at hj';have o:g=b:=by simpa [Value.ownBlock] using hb
    subst o;exact fun hc=>d j' r' _ (fun e=>hne e.symm) hj' hc rfl
   ·rw [gI hji] at hj
    by_cases hji':i=j'
    ·subst hji';rw [fJ oM] at hj';obtain rfl:=kS hj';intro hc;have o:g=b:=by simpa [Value.ownBlock] using hc
     exact d j r b (fun e=>hji e.symm) hj hb o.symm
    ·rw [gI hji'] at hj';exact h.rows.2.2 j j' r r' b hj hj' hne hb
 have c:=dG W' gN i (fQ (gO g) (l.length+1) cap);refine⟨fun u=>by rw [h.blk.cell,t.cell],za (by rw [a.cellAt i oM,hr]),a.frozenAt i,⟨t.frm c (fun e=>zq a t dM rfl e.symm),?_,?_,zf zks c (fun b hb hS=>?_),D.frm c (fun k hk e=>oM),z.ag (p:=⟨gN,i,gP⟩) B _,y,v⟩⟩
 ·rw [fT];exact (a.stored i _).1
 ·refine f.frm c (fun j r b hj hb hS=>?_);obtain⟨F,_,C⟩:=f.row hj;subst hS;exact zan C a dM hb rfl
 ·subst hS;exact zan zks a dM hb rfl
end
def BdL (L:Nat) (ls:List (List Int)) (acc:List Bool):Prop:=ls.length<=L/\acc.length<=L/\∀ l∈ls,l.length<=L
theorem BdL.more {K:Nat}(h:BdL L ls acc)(hK:L<=K):BdL K ls acc:=⟨dW h.1 hK,dW h.2.1 hK,fun l hl=>dW (h.2.2 l hl) hK⟩
def BdA (L:Nat) (b:Aut):Prop:=BdL L b.next b.acc
theorem BdA.of (h:zhz b):BdA 16 b:=by
 obtain⟨a,p,ha,hp1,f,h1,d,h3,c⟩:=h;exact⟨oM,oM,fun l hl=>by have:=c l hl;have:=zB a 6;omega⟩
theorem tot_le :∀ ls:List (List Int),(∀ l∈ls,l.length<=L)->tot ls<=ls.length*L
 |[],_=>by simp [tot]
 |l :: r,h=>by
  have:=tot_le r (fun x hx=>h x (by simp [hx]))
  have:=h l sM
  rw [tot_cons,List.length_cons,Nat.add_mul]
  omega
theorem BdA.size (h:BdA L b)(hL:L<=200):b.size<=1048576:=by
 have h1:=tot_le b.next h.2.2;have a:b.next.length*L<=200*200:=Nat.mul_le_mul (dW h.1 hL) hL;have h3:=h.1;have c:=h.2.1;unfold Aut.size;omega
theorem eq_edge (a b c d e f:Int) (w:kJ):(Op.equalIn 10000 117 (kO #[a,b,c]) (kO #[d,e,f])).run kN w=.ok (a==d&&(b==e&&c==f)) w:=by
 have j:=Tryz.underlying3;have i:=Tryz.isAgg3;have k:=Tryz.sizeOf3;have g:kN.underlying 117=gO (.struct (kN.fieldsOf 117)):=kM;have h:kN.stoodInHeld 117=kK:=kM;rw [show (10000:Nat)=9999+1 from rfl,run_equalIn_agg w 9999 117 _ _ g h];simp only [Program.fieldsOf,Tryz.underlying117];go_simp
 by_cases h1:a=d<;>by_cases h2:b=e<;>by_cases h3:c=f<;>simp [h1,h2,h3]
theorem wrong_acc (hr:Rd w R M)(hx:Ext w w1)(hR:R<w.heap.size)(hxW:Ext w1 W) (zkr:W.ownsRow w1.heap.size 117 3 v es.length (zv es))(hG:w1.heap.size<=G)(hB:Blk W G 38 #[al,st,v]) :
  Acc w w1 W R G M al st v es:=
 ⟨hB,zkr,hr.ext (hx.trans hxW),(hx.trans hxW).dr,hxW.ak,hR,hx.size,dW hx.size hG⟩
theorem edge_lit (w:kJ):(w.alloc (.cells #[] 117)).drew.ownsRow w.heap.size 117 3 (fQ (gO w.heap.size) 0 0) 0 []:=
 World.ownsRow_lit w #[] 0 (dD _) lM rfl
theorem zjH (hn:n=es.length)(h:W.ownsRow base 117 3 v n (zv es)):W.ownsRow base 117 3 v es.length (zv es):=by
 subst hn;exact h
theorem zgV (hr:Rd w R M)(hx:Ext w w1)(hR:R<w.heap.size)(hxW:Ext w1 W) (zkr:W.ownsRow w1.heap.size 117 3 v es.length (zv es))(hB:Blk W G 38 #[(0:Int),(0:Int),()])(hG:w1.heap.size<=G) :
  ∃ (G':Nat) (v':kL),Value.pointer (gO G)=.pointer (gO G')/\w1.heap.size<=G'/\Acc w w1 (((W.setCell G al).setCell ⟨G,1,gP⟩ st).setCell ⟨G,2,gP⟩ v) R G' M al st v' es:=by
 have hf:=zdk W G (.int kA al) (.int kA st) v;have c:∀ b,v.ownBlock=gO b->b≠G:=by
  rintro b a rfl;rcases zkr.2 with ⟨rfl,_⟩|⟨g,d,f,rfl,_,i,_⟩
  ·simp [Value.ownBlock] at a
  ·have h:g=b:=by simpa [Value.ownBlock] using a
   subst h;unfold Blk at hB;rw [i] at hB;injection hB with hB
   injection hB with _ ht
   exact absurd ht dM
 refine⟨G,v,rfl,hG,wrong_acc hr hx hR ?_ (zf zkr hf (fun b a hS=>c b a hS)) hG (by simpa using ((hB.ab 0 (.int kA al)).ab 1 (.int kA st)).ab 2 v)⟩;exact ((hxW.setCell (p:=⟨G,0,gP⟩) hG _).setCell (p:=⟨G,1,gP⟩) hG _).setCell (p:=⟨G,2,gP⟩) hG _
theorem zhj {wB:kJ}(h:Acc w0 wB W R G M al st (fQ A n c) es)(hn:0<n):∃ g,A=gO ⟨g,0,gP⟩:=by
 rcases h.own.2 with ⟨a,f⟩|⟨g,b,d,a,_⟩
 ·injection a with _ h2 _;omega
 ·injection a with h1
  exact⟨g,h1⟩
theorem yT16a4 {P:Prop}(h:P:=by
 have h1':=h1.out;refine zad fun K hK=>?_;go_simp;refine hK.out _ _ ?_;refine zaF ?_;go_wp2_with fail
 go_meet;exact⟨_,_,_,_,h3.more oM,by have:=HnL.out;simp;omega⟩
 ):P:=h
theorem yT16a5 {P:Prop}(h:P:=by
 refine zad fun K hK=>?_;go_simp;refine hK.out _ _ ?_;refine zaF ?_;go_wp2_with fail
 go_meet;exact⟨_,_,_,_,hst.more oM,by have:=HnL.out;simp;omega⟩
 ):P:=h
theorem zeO {s:Sys}(h:Rd w R M)(hM:M<=900000000)(hs:zcB w R A n s)(hn:n<=L)(hL:L<=100000) :
  kQ kN 117 #[kV (gO R),kO #[s.al,s.st,fQ A n c]] w (RetA R (M+10) (L+1) w):=by
 have hRl:=h.lt;have O:=hs.at_.2;have D:=za hs.1;obtain⟨al,st,a⟩:=s;simp only at O D ⊢;obtain⟨w1,U0⟩:∃ x,Hid ((w.alloc (.cells #[al,st,fQ A n c] 38)).alloc (.cells #[(0:Int),(0:Int),()] 38)=x):=⟨_,za rfl⟩;have ao:Ext w w1:=(((dB _).alloc _).alloc _).trans (Ext.eq_ U0.out);obtain⟨bS,bZ⟩:=zG (Ext.eq_ U0.out);have an:w1.heap.size=w.heap.size+2:=by rw [<- U0.out];simp
 have au:=za bS;have ad:=za bZ;have B:=za ao;have av:=za an;clear bS bZ ao an hs
 go_enter Tryz.func117,Tryz.ntmps117
 go_wp2_with fail
 rw [U0.out] at *;have aY:w.heap.size+2<=w1.heap.size:=by rw [av.out];exact dD _
 go_upto_region 1 with fail
 go_cut [5] (fun s5 wx=>∃ (G:Nat) (v:kL),s5=.pointer (gO G)/\w1.heap.size<=G/\Acc w w1 wx R G M al st v a)
 case first =>
  have cS:=fun W (hW:Ext w1 W)=>(au.out.ext hW).cell;refine tR (fun X=>Ext w1 X) [10] (Ord.app [0,1,2,3,5,6] (Ord.two 4 (Ord.two 7 (Ord.of [8,9,10]) 9 (Ord.of [7,8,10])) 9 (Ord.of [4,7,8,10]))) ?_;refine tQ ?_;refine zgt (fun K hK=>?_) (fun K hK=>?_)
  ·go_simp;have i:Ext w1 (w1.alloc (.cells #[] 117)).drew:=((dB w1).alloc _).drew;have zkr:(w1.alloc (.cells #[] 117)).drew.ownsRow w1.heap.size 117 3 (fQ (gO w1.heap.size) 0 0) 0 []:=edge_lit w1;have U:(w1.alloc (.cells #[] 117)).drew.heap.size=w1.heap.size+1:=sM;refine hK.out _ _ i ?_;refine pT ?_;generalize (w1.alloc (.cells #[] 117)).drew=V at *;refine zgt (fun K hK=>?_) (fun K hK=>?_)
   ·refine zy _ _ _ _ rfl w1.heap.size 117 _ 3 24 Tryz.underlying36 zbf rfl dM (fQ (gO w1.heap.size) 0 0) 0 [] rfl zkr (R+1) w.heap.size A n c (zv a) rfl (O.ext (B.out.trans i)) (zcS a) lM oM i.size ?_;intro v Y zkC hg3 hat3;rw [eK,eY] at zkC;obtain⟨A3,c3,rfl⟩:=zi zkC;have d:Ext w1 Y:=i.grown hg3 (fun k hk=>by simp [Value.ownBlock] at hk;omega);refine hK.out _ _ d ?_;refine pT ?_;refine tQ ?_;refine zK fun K hK=>?_;go_simp;refine hK.out _ _ (d.alloc _) ?_;refine pT ?_;refine tQ ?_;refine zad fun K hK=>?_;go_simp;refine hK.out _ _ ?_;refine zaF ?_;go_wp2_with fail
    go_meet;exact⟨Y.heap.size,fQ A3 n c3,rfl,d.size,wrong_acc h B.out hRl (d.alloc _) (zh (zjH D.out zkC) ((dB _).alloc _)) d.size (eO _ _ _)⟩
   ·go_simp;have d:=i.alloc (.cells #[(0:Int),(0:Int),()] 38);have ap:=(dB V).alloc (.cells #[(0:Int),(0:Int),()] 38);replace zkr:=zh zkr ap;refine hK.out _ _ d ?_;generalize U0:V.alloc _=a0 at *;have H:=eM U0;clear U0;rw [U] at H;have i:=d;refine pT ?_;refine zK (fun K hK=>?_);refine zy _ _ _ _ rfl w1.heap.size 117 _ 3 24 Tryz.underlying36 zbf rfl dM (fQ (gO w1.heap.size) 0 0) 0 [] rfl zkr (R+1) w.heap.size A n c (zv a) rfl (O.ext (B.out.trans i)) (zcS a) lM oM i.size ?_;intro v Y zkC hg3 hat3;rw [eK,eY] at zkC;obtain⟨A3,c3,rfl⟩:=zi zkC;have d:Ext w1 Y:=i.grown hg3 (fun k hk=>by simp [Value.ownBlock] at hk;omega);have p:Blk Y (w1.heap.size+1) 38 #[.int kA 0,.int kA 0,fQ gP 0 0]:=H.frm (fF hg3) (by simp [Value.ownBlock]);refine hK.out _ _ d ?_;refine pT ?_;refine tQ ?_;have cE:=p.cell;have fE:=p.frozen;refine zad fun K hK=>?_;go_simp;refine hK.out _ _ ?_;refine zaF ?_;go_wp2_with fail
    go_meet;exact zgV h B.out hRl d (zjH D.out zkC) p oM
  ·go_simp;have i:Ext w1 (w1.alloc (.cells #[(0:Int),(0:Int),()] 38)).drew:=((dB w1).alloc _).drew;have aw:Blk (w1.alloc (.cells #[(0:Int),(0:Int),()] 38)).drew w1.heap.size 38 #[.int kA 0,.int kA 0,fQ gP 0 0]:=eO w1 _ _;have U:(w1.alloc (.cells #[(0:Int),(0:Int),()] 38)).drew.heap.size=w1.heap.size+1:=sM;refine hK.out _ _ i ?_;refine pT ?_;generalize (w1.alloc (.cells #[(0:Int),(0:Int),()] 38)).drew=V at *;refine zK fun K hK=>?_;go_simp;have d:=i.alloc (.cells #[] 117);have zkr:(V.alloc (.cells #[] 117)).ownsRow w1.heap.size 117 3 (fQ (gO ⟨w1.heap.size+1,0,gP⟩) 0 0) 0 []:=by
    rw [<- U];exact World.ownsRow_lit V #[] 0 i.size lM rfl
   have H:=aw.ext ((dB V).alloc (.cells #[] 117));refine hK.out _ _ d ?_;generalize V.alloc _=Y at *;refine pT ?_;refine zK (fun K hK=>?_);refine zy _ _ _ _ rfl w1.heap.size 117 _ 3 24 Tryz.underlying36 zbf rfl dM (fQ (gO ⟨w1.heap.size+1,0,gP⟩) 0 0) 0 [] rfl zkr (R+1) w.heap.size A n c (zv a) rfl (O.ext (B.out.trans d)) (zcS a) lM oM d.size ?_;intro v w4 hown4 hg4 hat4;rw [eK,eY] at hown4;obtain⟨A4,c4,rfl⟩:=zi hown4;have aq:Ext w1 w4:=d.grown hg4 (fun k hk=>by simp [Value.ownBlock] at hk;omega);have p:Blk w4 w1.heap.size 38 #[.int kA 0,.int kA 0,fQ gP 0 0]:=H.frm (fF hg4) (by simp [Value.ownBlock]);refine hK.out _ _ aq ?_;refine pT ?_;refine tQ ?_;have cE:=p.cell;have fE:=p.frozen;refine zad fun K hK=>?_;go_simp;refine hK.out _ _ ?_;refine zaF ?_;go_wp2_with fail
   go_meet;exact zgV h B.out hRl aq (zjH D.out hown4) p (dD _)
 case rest =>
  obtain⟨G,v,rfl,aW,zks⟩:=hcut;obtain⟨A1,n1,c1,rfl⟩:=zks.form;obtain⟨rfl,am⟩:=zks.reads;have aX:=zks.hG;have cG:=zks.blk.cell;have aj:=am.2.len;clear am;have az:a.length<=L:=oH D.out;have HnL:=za az;go_wp2_with fail
  refine (zJ (n:=a.length) zks.rd oM).mono ?_;rintro e Y ⟨k,rfl,ah,ay,ak,ag⟩;replace zks:=zks.drawn ag ak;clear ag ak cG;have Hk:=za ah;clear ah ay;go_wp2_with fail
  refine (zJ (n:=30) zks.rd oM).mono ?_;rintro e w4 ⟨y,rfl,-,-,hr4,hd4⟩;replace zks:=zks.drawn hd4 hr4;clear hd4 hr4;go_upto_block 0 with fail
  go_cut [] (fun wx=>∃ (al st:Int) (v:kL) (S:List Edg),Acc w w1 wx R G (M+10) al st v S/\S.length<=L+1)
  case first =>
   have aR:=za aj;clear aj;have I:y=0\/y=1\/y=2\/y=3\/y=4\/y=5\/y=6\/7<=y:=oM;rcases I with t|t|t|t|t|t|t|t
   ·subst t;have aC:True:=trivial;go_wp2_with fail
    refine (zbV [64,(-1),1,63] 4 #[(64:Int),.int kA (-1),(1:Int),(63:Int)] rfl rfl oM oM zks.rd oM).mono ?_;rintro e E ⟨x,-,rfl,m,f⟩;replace zks:=(zks.ext ((dB _).alloc _)).drawn f m;have cG:=zks.blk.cell;have fG:=zks.blk.frozen;go_wp2_with fail
    go_meet;exact⟨_,_,_,a,(zks.setAl x).more oM,oH HnL.out⟩
   ·subst t;have aC:True:=trivial;go_wp2_with fail
    refine (zbV [0,17,(-1),16,1] 5 #[(0:Int),(17:Int),.int kA (-1),(16:Int),(1:Int)] rfl rfl oM oM zks.rd oM).mono ?_;rintro e E ⟨x,-,rfl,m,f⟩;replace zks:=(zks.ext ((dB _).alloc _)).drawn f m;have cG:=zks.blk.cell;have fG:=zks.blk.frozen;go_wp2_with fail
    go_meet;exact⟨_,_,_,a,(zks.setSt x).more oM,oH HnL.out⟩
   ·subst t
    by_cases hn0:0<a.length
    ·have hk:=Hk.out oM;have r:k<a.length:=oM;obtain⟨g,rfl⟩:=zhj zks hn0;have l:a.length≠0:=oM;have T:R<w1.heap.size:=by have:=zks.hR;have:=zks.hB;omega
     have cG:∀ W,Dr R w4 W->∀ q,W.cell? ⟨G,q,gP⟩=#[Value.int kA al,.int kA st,fQ (gO g) a.length c1][q]?:=fun W hW=>(zks.blk.dr hW (oH zks.hG)).cell;clear hk l;go_wp2_with fail
     refine tR (fun X=>Dr R w4 X) [8] (Ord.of [0,1,2,3,4,5,6,7,8]) ?_;refine tQ ?_;refine zK fun K hK=>?_;go_simp;refine hK.out _ _ ((Dr.refl R w4).drew.alloc _) ?_;refine pT ?_;refine tQ ?_;refine zK fun K hK=>?_;go_simp;refine (zbV (w:=w4.drew) [(-1),16,0,2] 4 #[.int kA (-1),(16:Int),(0:Int),(2:Int)] rfl rfl oM oM (zks.rd.ext (dB _).drew) oM).mono ?_;rintro e E ⟨x,-,rfl,m,f⟩;have j:Dr R w4 E:=((Dr.refl R w4).drew.alloc _).trans f;have b:=zks.drawn j m;refine hK.out _ _ j ?_;refine pT ?_;refine tQ ?_;have zkr:=b.own;obtain⟨o0,c0⟩:=zaM zkr (k*3) oM;have f0:=zkr.frozenAt (k*3);have hst:=b.turn rfl (zef (dE r) x).1 sM;exact yT16a5
    ·have hn1:a.length=0:=oM;clear hn0;go_wp2_with fail
     go_meet;exact⟨_,_,_,a,zks.more oM,oH HnL.out⟩
   ·subst t
    by_cases hn0:0<a.length
    ·have hk:=Hk.out oM;have r:k<a.length:=oM;obtain⟨g,rfl⟩:=zhj zks hn0;have l:a.length≠0:=oM;have T:R<w1.heap.size:=by have:=zks.hR;have:=zks.hB;omega
     have cG:∀ W,Dr R w4 W->∀ q,W.cell? ⟨G,q,gP⟩=#[Value.int kA al,.int kA st,fQ (gO g) a.length c1][q]?:=fun W hW=>(zks.blk.dr hW (oH zks.hG)).cell;clear hk l;go_wp2_with fail
     refine tR (fun X=>Dr R w4 X) [8] (Ord.of [0,1,2,3,4,5,6,7,8]) ?_;refine tQ ?_;refine zK fun K hK=>?_;go_simp;refine hK.out _ _ ((Dr.refl R w4).drew.alloc _) ?_;refine pT ?_;refine tQ ?_;refine zK fun K hK=>?_;go_simp;refine (zbV (w:=w4.drew) [(-1),16,0,3] 4 #[.int kA (-1),(16:Int),(0:Int),(3:Int)] rfl rfl oM oM (zks.rd.ext (dB _).drew) oM).mono ?_;rintro e E ⟨x,-,rfl,m,f⟩;have j:Dr R w4 E:=((Dr.refl R w4).drew.alloc _).trans f;have b:=zks.drawn j m;refine hK.out _ _ j ?_;refine pT ?_;refine tQ ?_;have zkr:=b.own;obtain⟨o0,c0⟩:=zaM zkr (k*3+2) oM;have f0:=zkr.frozenAt (k*3+2);have hst:=b.turn rfl (zef (dE r) x).2.2 sM;exact yT16a5
    ·have hn1:a.length=0:=oM;clear hn0;go_wp2_with fail
     go_meet;exact⟨_,_,_,a,zks.more oM,oH HnL.out⟩
   ·subst t
    by_cases hn0:0<a.length
    ·have hk:=Hk.out oM;have r:k<a.length:=oM;obtain⟨g,rfl⟩:=zhj zks hn0;have l:a.length≠0:=oM;have T:R<w1.heap.size:=by have:=zks.hR;have:=zks.hB;omega
     have cG:∀ W,Dr R w4 W->∀ q,W.cell? ⟨G,q,gP⟩=#[Value.int kA al,.int kA st,fQ (gO g) a.length c1][q]?:=fun W hW=>(zks.blk.dr hW (oH zks.hG)).cell;clear hk l;go_wp2_with fail
     refine tR (fun X=>Dr R w4 X) [8] (Ord.of [0,1,2,3,4,5,6,7,8]) ?_;refine tQ ?_;refine zK fun K hK=>?_;go_simp;refine hK.out _ _ ((Dr.refl R w4).drew.alloc _) ?_;refine pT ?_;refine tQ ?_;refine zK fun K hK=>?_;go_simp;refine (zbV (w:=w4.drew) [(-1),6,70,5,0] 5 #[.int kA (-1),(6:Int),(70:Int),(5:Int),(0:Int)] rfl rfl oM oM (zks.rd.ext (dB _).drew) oM).mono ?_;rintro e E ⟨x,-,rfl,m,f⟩;have j:Dr R w4 E:=((Dr.refl R w4).drew.alloc _).trans f;have b:=zks.drawn j m;refine hK.out _ _ j ?_;refine pT ?_;refine tQ ?_;have zkr:=b.own;obtain⟨o0,c0⟩:=zaM zkr (k*3+1) oM;have f0:=zkr.frozenAt (k*3+1);have hst:=b.turn rfl (zef (dE r) x).2.1 sM;exact yT16a5
    ·have hn1:a.length=0:=oM;clear hn0;go_wp2_with fail
     go_meet;exact⟨_,_,_,a,zks.more oM,oH HnL.out⟩
   ·subst t
    by_cases hn0:0<a.length
    ·have hk:=Hk.out oM;have r:k<a.length:=oM;obtain⟨g,rfl⟩:=zhj zks hn0;have l:a.length≠0:=oM;have zkr:=zks.own;have hE:=za (dE r);obtain⟨ed,ax⟩:∃ ed,Hid (a[k]?=gO ed):=⟨_,hE.out⟩;obtain⟨d0,d1,d2⟩:=zcR ax.out;have cG:=fun W (hW:Ext w4 W)=>(zks.blk.ext hW).cell;have C0:∀ W,Ext w4 W->W.cell? ⟨g,k*3,gP⟩=gO (.int kA ed.fr):=fun W hW=>hW.aa (by rw [zkr.cellAt _ oM];exact d0);have C1:∀ W,Ext w4 W->W.cell? ⟨g,k*3+1,gP⟩=gO (.int kA ed.le):=fun W hW=>hW.aa (by rw [zkr.cellAt _ oM];exact d1);have C2:∀ W,Ext w4 W->W.cell? ⟨g,k*3+2,gP⟩=gO (.int kA ed.ta):=fun W hW=>hW.aa (by rw [zkr.cellAt _ oM];exact d2);clear hk l d0 d1 d2;go_wp2_with fail
     refine tR (fun X=>Ext w4 X) [8,10] (Ord.of [0,1,2,3,4,5,6,7,8,9,10]) ?_;refine tQ ?_;refine zK fun K hK=>?_;go_simp;refine hK.out _ _ ((dB _).drew.alloc _) ?_;refine pT ?_;refine zad fun K hK=>?_;refine zaB w1 w4.drew _ _ _ rfl 117 _ 3 24 Tryz.underlying36 zbf rfl dM (fQ (gO g) a.length c1) a.length (zv a) _ _ rfl rfl zks.fr.size zkr rfl (by simp [Value.oneCell']) lM oM ?_;intro g5 cap5 E zkD hg5 hat5 hlt5;refine hK.out _ _ ?_;refine pT ?_;refine tQ ?_;obtain⟨h1,h2,h3⟩:=(zks.ext ((dB _).drew)).push (e:=ed) (W':=E) zkD hg5 hat5;exact yT16a4
    ·have hn1:a.length=0:=oM;clear hn0;go_wp2_with fail
     go_meet;exact⟨_,_,_,a,zks.more oM,oH HnL.out⟩
   ·subst t;have T:R<w1.heap.size:=by have:=zks.hR;have:=zks.hB;omega
    have cG:∀ W,Dr R w4 W->∀ q,W.cell? ⟨G,q,gP⟩=#[Value.int kA al,.int kA st,fQ A1 a.length c1][q]?:=fun W hW=>(zks.blk.dr hW (oH zks.hG)).cell;go_wp2_with fail
    refine tR (fun X=>Dr R w4 X) [10,12] (Ord.of [0,1,2,4,6,3,5,7,8,9,10,11,12]) ?_;refine tQ ?_;refine zK fun K hK=>?_;go_simp;refine (zJ (n:=4) (zks.rd.ext (dB _).drew) oM).mono ?_;rintro e E ⟨x,rfl,-,-,m,f⟩;replace f:=((Dr.refl R w4).drew).trans f;refine hK.out _ _ f ?_;refine pT ?_;refine tQ ?_;refine zK fun K hK=>?_;go_simp;refine (zJ (n:=3) m oM).mono ?_;rintro e w6 ⟨z,rfl,-,-,aA,J⟩;replace J:=f.trans J;refine hK.out _ _ J ?_;refine pT ?_;refine tQ ?_;refine zK fun K hK=>?_;go_simp;refine (zJ (n:=4) aA oM).mono ?_;rintro e w7 ⟨u,rfl,-,-,aB,C⟩;replace C:=J.trans C;refine hK.out _ _ C ?_;have o:=zks.drawn C aB;refine pT ?_;refine tQ ?_;refine zK fun K hK=>?_;go_simp;refine hK.out _ _ (C.alloc _) ?_;refine pT ?_;refine zad fun K hK=>?_;refine zaB w1 w7 _ _ _ rfl 117 _ 3 24 Tryz.underlying36 zbf rfl dM (fQ A1 a.length c1) a.length (zv a) _ _ rfl rfl o.fr.size o.own rfl (by simp [Value.oneCell']) (by unfold maxLen;have:=HnL.out;omega) (oH HnL.out) ?_;intro g8 cap8 w8 hown8 hg8 hat8 hlt8;refine hK.out _ _ ?_;refine pT ?_;refine tQ ?_;obtain⟨h1,h2,h3⟩:=o.push (e:=⟨x,z,u⟩) (W':=w8) hown8 hg8 hat8;exact yT16a4
   ·have h0:((y:Int)==0)=kK:=by simp;omega
    have h1:((y:Int)==1)=kK:=by simp;omega
    have h2:((y:Int)==2)=kK:=by simp;omega
    have h3:((y:Int)==3)=kK:=by simp;omega
    have h4:((y:Int)==4)=kK:=by simp;omega
    have h5:((y:Int)==5)=kK:=by simp;omega
    have h6:((y:Int)==6)=kK:=by simp;omega
    clear t;go_wp2_with fail
    go_meet;exact⟨_,_,_,a,zks.more oM,oH HnL.out⟩
  case rest =>
   clear zks;obtain⟨F,Q,v',S,zks,ai⟩:=hcut;obtain⟨A',n',c',rfl⟩:=zks.form;obtain⟨rfl,_⟩:=zks.reads;have cG:=zks.blk.cell;have af:=ad.out.frm zks.fr oM;have cz:=af.cell;have aZ:=ad.out.lt;have fz:=af.frozen;obtain⟨f1,f2,f3⟩:=zks.fin (Z:=w.heap.size+1) oM oM (.int kA F) (.int kA Q) (fQ A' S.length c');have ae:=za (show RetA R (M+10) (L+1) w (kP (kO #[F,Q,fQ A' S.length c'])) _ from ⟨⟨F,Q,S⟩,A',S.length,c',rfl,f1,⟨ai,zjU zks.own⟩,f2,f3⟩);clear f1 f2 f3;go_wp2_with fail
   exact bodyPost_ret (v:=kO #[F,Q,fQ A' S.length c']) (by simp [results,Tryz.results117,go_sem,cz]) rfl ae.out
def lenAt (W:kJ) (G:Nat):Nat:=match W.cell? ⟨G,1,gP⟩ with|some (fQ _ n _)=>n|_=>0
theorem zcf.lenAt {vA:kL}{rows:List kL}(h:zcf w0 W R G M al (fQ A n c) rows ls vA acc):Go.Proofs.YtckbjnndaaoddaaGreatDoor.lenAt W G=n:=by
 unfold Go.Proofs.YtckbjnndaaoddaaGreatDoor.lenAt;rw [h.blk.cell 1];rfl
theorem yT16a7 {P:Prop}(h:P:=by
 have hn1:m=0:=oM;clear hn0;have cG:=zks.blk.cell;go_wp2_with fail
 go_meet;exact⟨_,_,_,_,_,_,zks.more oM,za (Hb.out.more oM)⟩
 ):P:=h
theorem zeP (h:Rd w R M)(hM:M<=900000000)(ho:zM w (R+1) A n c A' n' c' b)(hb:BdA L b)(hL:L<=100) :
  kQ kN 77 #[kV (gO R),kO #[b.al,fQ A n c,fQ A' n' c']] w (zix R (M+10) (BdA (L+13)) w):=by
 have hRl:=h.lt;have aE:=hb.size oM
 go_enter Tryz.func77,Tryz.ntmps77
 have u:=(dB w).alloc (.cells #[b.al,fQ A n c,fQ A' n' c'] 27);have b0:=eO w 27 #[b.al,fQ A n c,fQ A' n' c'];have aY:(w.alloc (.cells #[b.al,fQ A n c,fQ A' n' c'] 27)).heap.size=w.heap.size+1:=sM;have V:=u.alloc (.cells #[(0:Int),(),()] 27);have bz:=eO (w.alloc (.cells #[b.al,fQ A n c,fQ A' n' c'] 27)) 27 #[(0:Int),(),()];replace b0:=b0.ext ((dB _).alloc (.cells #[(0:Int),(),()] 27));rw [aY] at bz;have c0:=b0.cell;go_upto_region 1 with fail
 generalize (w.alloc _).alloc _=w1 at *;have a2:=bz.lt;go_wp2_with fail
 refine (zfJ (ho.ext V).reads aE).mono ?_;rintro e w2 ⟨B,m,d,B',m',d',rfl,zkr,ao⟩;obtain⟨a,zks⟩:=zcf.of (R:=R) (M:=M) zkr (h.ext (V.trans ao)) ao.dr oM;have hG:=ao.size;have hm:m=b.next.length:=zkr.2.1;have bC:m<=100:=oH hb.1;have Hm:=za hm;have Hb:=za hb;clear zkr ho hm hb aE;go_upto_region 2 with fail
 generalize w2.alloc _=w3 at *;generalize w2.heap.size=G at *;have cG:=zks.blk.cell;go_wp2_with fail
 refine (zJ zks.rd oM).mono ?_;rintro e w4 ⟨k,rfl,ax,-,hr4,hd4⟩;replace zks:=zks.drawn hd4 hr4;have Hk:=za ax;clear hd4 hr4 cG ax;go_wp2_with fail
 refine (zJ zks.rd oM).mono ?_;rintro e D ⟨y,rfl,-,-,aD,au⟩;replace zks:=zks.drawn au aD;clear au aD;go_upto_block 0 with fail
 go_cut [] (fun wx=>∃ (al:Int) (v:kL) (a:List kL) (C:List (List Int)) (vA:kL) (o:List Bool),zcf w1 wx R G (M+10) al v a C vA o/\Hid (BdL (L+13) C o))
 case first =>
  have ad:y=0\/y=1\/y=2\/y=3\/y=4\/y=5\/6<=y:=oM;rcases ad with I|I|I|I|I|I|I
  ·subst I;have Y:True:=trivial;go_wp2_with fail
   refine (zbV [64,(-1),1,63,0] 5 #[(64:Int),.int kA (-1),(1:Int),(63:Int),(0:Int)] rfl rfl oM oM zks.rd oM).mono ?_;rintro e E ⟨x,-,rfl,ae,Q⟩;replace zks:=(zks.ext ((dB _).alloc _)).drawn Q ae;have cG:=zks.blk.cell;have fG:=zks.blk.frozen;go_wp2_with fail
   go_meet;exact⟨_,_,_,_,_,_,(zks.setAl x).more oM,za (Hb.out.more oM)⟩
  ·subst I;have Y:True:=trivial;have cG:=zks.blk.cell;have H:=zks.dr.size;have aj:b.acc.length<=100:=oH Hb.out.2.1;go_wp2_with (at_builtin;refine zL w1 D rfl _ _ _ rfl 4 _ 1 1 Tryz.underlying25 zaW rfl dM (fQ B' m' d') b.acc.length (zae b.acc) _ _ rfl rfl H zks.acc rfl (by simp [Value.oneCell']) lM oM ?_;intro g6 cap6 E hown6 hg6 hat6 hlt6;obtain⟨q1,q2,q3⟩:=zks.ar (x:=kC) hown6 hg6 hat6;have a4:=q1.out)
   go_meet;exact⟨_,_,_,_,_,_,q3.more oM,za ⟨oH Hb.out.1,by have:=Hb.out.2.1;simp;omega,fun l z=>by have:=Hb.out.2.2 l z;omega⟩⟩
  ·subst I;have Y:True:=trivial
   by_cases hn0:0<m
   ·have hk:=Hk.out oM;have S:k<b.next.length:=oH Hm.out;obtain⟨l,z⟩:∃ l,b.next[k]?=gO l:=⟨_,dE S⟩;obtain⟨gN,rfl,av,-⟩:=zW (show D.ownsRow w1.heap.size 110 1 (fQ B m d) m a from by have:=zks.nx;rw [<- Hm.out] at this;exact this) hn0;obtain⟨Z,J,hr,f,t⟩:=zks.row z Hm.out;have am:l.length<=100:=by have:=Hb.out.2.2 l (dC z);omega
    have HL:=za z;have HR:=za hr;have H:=zks.dr.size;have cG:∀ W,Frm (fun b=>(fQ Z l.length J).ownBlock=gO b) D W->∀ q,W.cell? ⟨G,q,gP⟩=#[Value.int kA b.al,fQ (gO gN) m d,fQ B' m' d'][q]?:=fun W hW=>(zks.blk.frm hW (fun e=>zq t zks.blk dM e rfl)).cell;have cN:∀ W,Frm (fun b=>(fQ Z l.length J).ownBlock=gO b) D W->W.cell? ⟨gN,k,gP⟩=gO (fQ Z l.length J):=fun W hW=>by
     have hx:W.ownsRow w1.heap.size 110 1 (fQ (gO gN) m d) b.next.length a:=zf zks.nx hW (fun b hb hS=>zan zks.nx t dM hb hS);rw [<- Hm.out] at hx;rw [hx.cellAt k oM,HR.out]
    have bm:Frm (fun b=>(fQ Z l.length J).ownBlock=gO b) D D.drew:=(dB D).drew.ak;clear z hr f S;go_wp2_with fail
    refine tR (fun X=>Frm (fun b=>(fQ Z l.length J).ownBlock=gO b) D X) [11] (Ord.of [0,1,2,3,4,5,6,7,8,9,10,11]) ?_;refine tQ ?_;refine zK fun K hK=>?_;go_simp;have af:=(dB D).drew;refine hK.out _ _ (af.alloc _).ak ?_;refine pT ?_;refine zK (fun K hK=>?_);refine zaB w1 D.drew _ _ _ rfl 3 _ 1 8 Tryz.underlying110 zT rfl dM (fQ Z l.length J) l.length (ints l) _ _ rfl rfl H (zh t af) rfl (by simp [Value.oneCell']) lM oM ?_;intro g6 cap6 E hown6 hg6 hat6 hlt6;obtain⟨q1,q2,q3,q4⟩:=(zks.ext af).growRow (x:=0) Hm.out HR.out HL.out hown6 hg6 hat6;have bF:=q2.out;refine hK.out _ _ (af.ak.trans (fF hg6)) ?_;refine pT ?_;refine tQ ?_;refine zad fun K hK=>?_;go_simp;refine hK.out _ _ ?_;refine zaF ?_;go_wp2_with fail
    go_meet;refine⟨_,_,_,_,_,_,q4.more oM,za ⟨by have:=Hb.out.1;rw [fT];omega,oH Hb.out.2.1,fun l' hl'=>?_⟩⟩;rcases fU hl' with h1|h1
    ·have:=Hb.out.2.2 l' h1;omega
    ·have:=Hb.out.2.2 l (dC HL.out);rw [h1];simp;omega
   ·exact yT16a7
  ·subst I;have Y:True:=trivial
   by_cases hn0:0<m
   ·have hk:=Hk.out oM;have S:k<b.next.length:=oH Hm.out;obtain⟨l,z⟩:∃ l,b.next[k]?=gO l:=⟨_,dE S⟩;obtain⟨gN,rfl,av,-⟩:=zW (show D.ownsRow w1.heap.size 110 1 (fQ B m d) m a from by have:=zks.nx;rw [<- Hm.out] at this;exact this) hn0;obtain⟨Z,J,hr,f,t⟩:=zks.row z Hm.out;have am:l.length<=100:=by have:=Hb.out.2.2 l (dC z);omega
    have HL:=za z;have HR:=za hr;have aN:=za (Hb.out.2.2 l (dC z));clear z hr S;have cG:=zks.blk.cell
    by_cases hl0:0<l.length
    ·obtain⟨gr,rfl,-,-⟩:=zW t hl0;go_wp2_with fail
     refine (zJ (n:=l.length) zks.rd oM).mono ?_;rintro e E ⟨j,rfl,aw,-,ae,Q⟩;have bw:=aw oM;replace zks:=zks.drawn Q ae;have bt:=zks.hR;have cN:∀ W,Dr R E W->W.cell? ⟨gN,k,gP⟩=gO (fQ (gO gr) l.length J):=fun W hW=>(Q.trans hW).aa f (by simp;omega);have bD:IntKind.i64.wrap ((m:Int) - 1)=(m:Int) - 1:=by rw [IntKind.wrap_i64];omega
     clear cG aw ae Q f t;have cG:∀ W,Dr R E W->∀ q,W.cell? ⟨G,q,gP⟩=#[Value.int kA b.al,fQ (gO gN) m d,fQ B' m' d'][q]?:=fun W hW=>(zks.blk.dr hW (oH zks.hG)).cell;go_wp2_with fail
     refine tR (fun X=>Dr R E X) [13] (Ord.of [0,1,2,3,4,5,6,7,8,9,10,11,12,13]) ?_;refine tQ ?_;refine zK fun K hK=>?_;go_simp;refine hK.out _ _ ((Dr.refl R E).drew.alloc _) ?_;refine pT ?_;refine zK fun K hK=>?_;go_simp;refine (zbV (w:=E.drew) [(-1),m,(m:Int) - 1,0] 4 #[.int kA (-1),m,.int kA ((m:Int) - 1),(0:Int)] rfl rfl oM oM (zks.rd.ext (dB _).drew) oM).mono ?_;rintro e w7 ⟨x,-,rfl,aX,aU⟩;have ag:Dr R E w7:=((Dr.refl R E).drew.alloc _).trans aU;have O:=zks.drawn ag aX;refine hK.out _ _ ag ?_;refine pT ?_;refine tQ ?_;have zkr:=O.rows.2.1 k _ l HR.out HL.out;obtain⟨o0,c0⟩:=zaM zkr j oM;have f0:=zkr.frozenAt j;have hst:=O.setRow (k:=j) (x:=x) HR.out HL.out rfl;refine zad fun K hK=>?_;go_simp;refine hK.out _ _ ?_;refine zaF ?_;go_wp2_with fail
     go_meet;refine⟨_,_,_,_,_,_,hst.more oM,za ⟨by have:=Hb.out.1;rw [fT];omega,oH Hb.out.2.1,fun l' hl'=>?_⟩⟩;rcases fU hl' with h1|h1
     ·have:=Hb.out.2.2 l' h1;omega
     ·rw [h1];simp;have:=aN.out;omega
    ·have bx:l.length=0:=oM;have bA:¬ ((l.length:Int)>0):=oM;go_wp2_with fail
     go_meet;exact⟨_,_,_,_,_,_,zks.more oM,za (Hb.out.more oM)⟩
   ·exact yT16a7
  ·subst I;have Y:True:=trivial;have H:=zks.dr.size;have p:=zks.ext ((dB D).alloc (.cells #[] 110));have hn1:=World.ownsRow_lit (base:=w1.heap.size) (e:=110) (size:=1) D #[] 0 H lM rfl;have cG:=p.blk.cell;have fG:=p.blk.frozen;go_upto_region 18 with fail
   replace p:=p.setNext hn1;clear zks cG fG hn1;generalize (D.alloc (.cells #[] 110)).setCell ⟨G,1,gP⟩ (fQ (gO D.heap.size) 0 0)=E at *;have aZ:=p.dr.size;have F:=p.ext ((dB E).alloc (.cells #[] 4));have aW:=World.ownsRow_lit (base:=w1.heap.size) (e:=4) (size:=1) E #[] 0 aZ lM rfl;have cG:=F.blk.cell;have fG:=F.blk.frozen;go_wp2_with fail
   go_meet;exact⟨_,_,_,_,_,_,(F.setMarks aW).more oM,za ⟨sM,sM,fun l z=>by simp at z⟩⟩
  ·subst I;have Y:True:=trivial
   by_cases hn0:0<m
   ·have a8:((m:Int)>0):=oM;have aC:m=b.next.length:=Hm.out;have bB:m<=L:=oH Hb.out.1;have hst:∃ (i:Nat) (v:kL) (a:List kL) (C:List (List Int)) (vA:kL) (o:List Bool),i<=13/\zcf w1 D R G (M+2) b.al v a C vA o/\Hid (C.length=m+i)/\Hid (i=0\/m+i<=13)/\Hid (o.length<=L+i)/\Hid (∀ l∈C,l.length<=L):=
     ⟨0,_,_,_,_,_,oM,zks,za aC.symm,za (.inl rfl),za Hb.out.2.1,za Hb.out.2.2⟩
    clear aC zks;go_wp2_with fail
    go_loopw [] (fun wr=>∃ (i:Nat) (v:kL) (a:List kL) (C:List (List Int)) (vA:kL) (o:List Bool),i<=13/\zcf w1 wr R G (M+2) b.al v a C vA o/\Hid (C.length=m+i)/\Hid (i=0\/m+i<=13)/\Hid (o.length<=L+i)/\Hid (∀ l∈C,l.length<=L)) (fun wr=>200 - lenAt wr G)
    case atStart=>exact hst
    case round =>
     clear hst;obtain⟨i,v,a,C,vA,o,hi,zks,s,aV,aj,ak⟩:=hrel;obtain⟨gN,cN,rfl,av⟩:∃ g c,v=fQ (gO ⟨g,0,gP⟩) (m+i) c/\w1.heap.size<=g:=by
      obtain⟨A9,c9,rfl⟩:=zi zks.nx;obtain⟨g,rfl,hg,-⟩:=zW zks.nx (oH s.out);exact⟨g,c9,by rw [s.out],hg⟩
     have aB:=za zks.lenAt
     by_cases hlt:m+i<=12
     ·have az:((m+i:Nat):Int)<=12:=oM;have ar:0<C.length:=oH s.out;obtain⟨l,z⟩:∃ l,C[0]?=gO l:=⟨_,dE ar⟩;obtain⟨Z,J,hr,f,t⟩:=zks.row z s.out.symm;have am:l.length<=L:=ak.out l (dC z);have aO:=za am;have ay:=za zks.low;have H:=zks.dr.size;have ah:=Reads.af t;have aP:=za (fun W (hW:Ext wr W)=>ah.ext hW);have cG:=fun W (hW:Ext wr W)=>(zks.blk.ext hW).cell;have aS:∀ W,Ext wr W->W.cell? gN=gO (fQ Z l.length J):=fun W hW=>hW.aa f;have a1:=dB wr;have bn:(0:Int)<((m+i:Nat):Int):=oM;have bo:0<(m:Int)+(i:Int):=oM;clear z hr f t ah ar;go_upto_region 21 with fail
      refine uR (fun X=>Ext wr X) [9,11] (zx.of [0,1,3,4,5,6,2,7,8,9,10,11]) ?_;refine uQ ?_;have u:Ext wr wr.drew:=a1.drew;generalize wr.drew=wd at *;refine ze fun K hK=>?_;go_simp;have hm:=World.ownsRow_made (base:=wr.heap.size) (e:=3) (size:=1) wd #[] 0 u.size (dH _) rfl;have V:=(dB wd).alloc (.cells #[] 3);replace u:=u.trans V;refine hK.out _ _ u ?_;generalize wd.alloc _=wm at *;generalize wd.heap.size=MM at *;refine pT ?_;refine uQ ?_;refine ze (fun K hK=>?_);refine zy wm _ _ 110 rfl wr.heap.size 3 _ 1 8 Tryz.underlying110 zT rfl dM (fQ (gO MM) 0 0) 0 [] rfl hm _ _ Z l.length J (ints l) rfl (aP.out _ u) (zjO _) lM oM u.size ?_;intro vR E hrow hgR hatR;rw [eK,eY] at hrow;obtain⟨BR,dR,rfl⟩:=zi hrow;have U:Ext wr E:=u.grown hgR (fun k hk=>(hm.lt k hk).1);refine hK.out _ _ U ?_;refine pT ?_;refine uQ ?_;refine ze fun K hK=>?_;go_simp;refine hK.out _ _ (U.alloc _) ?_;refine pT ?_;refine zb fun K hK=>?_;have r:=zks.ext U;have T:=r.nx;rw [s.out] at T;refine zaB w1 E _ _ _ rfl 110 _ 1 24 Tryz.underlying24 zbH rfl dM (fQ (gO gN) (m+i) cN) (m+i) a _ _ rfl rfl r.dr.size T rfl (zaK _ _ _) lM oM ?_;intro g7 cap7 w7 hown7 hg7 hat7 hlt7;refine hK.out _ _ ?_;refine pT ?_;refine uQ ?_;obtain⟨p1,p2,p3⟩:=r.az (l:=l) (W':=w7) (g:=g7) (cap:=cap7) ay.out H hrow (by rw [s.out];exact hown7) hg7 hat7;have a3:=p1.out;rw [s.out] at p3;refine zb fun K hK=>?_;go_simp;refine hK.out _ _ ?_;refine zg ?_;generalize w7.setCell ⟨G,1,gP⟩ (fQ (gO g7) (m+i+1) cap7)=w8 at *;have bi:=p3.blk.cell;have a0:=p3.dr.size;have a7:=aj.out;clear p1 a3 p2 cG aS hown7 hg7 hat7 r zks T;go_wp2_with (at_builtin;refine zL w1 w8 rfl _ _ _ rfl 4 _ 1 1 Tryz.underlying25 zaW rfl dM vA o.length (zae o) _ _ rfl rfl a0 p3.acc rfl (by simp [Value.oneCell']) lM oM ?_;intro g9 cap9 w9 hown9 hg9 hat9 hlt9;obtain⟨q1,q2,q3⟩:=p3.ar (x:=kK) hown9 hg9 hat9;have a4:=q1.out)
      go_roundw
      case rel=>exact⟨i+1,oM,_,_,C++[l],_,o++[kK],q3,za (by have:=s.out;simp;omega),za oM,za (by simp;omega),za (fun l' hl'=>by
       rcases kY.1 hl' with h1|h1
       ·exact ak.out l' h1
       ·rw [lA.1 h1];exact aO.out)⟩
      case measure=>have h1:=q3.lenAt;have h2:=aB.out;omega
     ·have az:¬ (((m+i:Nat):Int)<=12):=oM;have cG:=zks.blk.cell;go_wp2_with fail
      go_meet;exact⟨_,_,_,_,_,_,zks.more oM,za ⟨by have:=s.out;have:=aV.out;omega,oH aj.out,fun l' hl'=>by have:=ak.out l' hl';omega⟩⟩
   ·have hn1:m=0:=oM;clear hn0;have cG:=zks.blk.cell;have hst:=zks;clear zks;go_wp2_with fail
    go_loopw [] (fun wr=>zcf w1 wr R G (M+1+1) b.al (fQ B m d) a b.next (fQ B' m' d') b.acc) (fun wr=>0)
    case atStart=>exact hst
    case round =>
     clear hst cG;have cG:=hrel.blk.cell;go_wp2_with fail
     go_meet;exact⟨_,_,_,_,_,_,hrel.more oM,za (Hb.out.more oM)⟩
  ·have bl:((y:Int)==0)=kK:=by simp;omega
   have h1':((y:Int)==1)=kK:=by simp;omega
   have bp:((y:Int)==2)=kK:=by simp;omega
   have bq:((y:Int)==3)=kK:=by simp;omega
   have br:((y:Int)==4)=kK:=by simp;omega
   have bs:((y:Int)==5)=kK:=by simp;omega
   go_wp2_with fail
   go_meet;exact⟨_,_,_,_,_,_,zks.more oM,za (Hb.out.more oM)⟩
 case rest =>
  clear zks;obtain⟨al,v,a,C,vA,o,zks,aT⟩:=hcut;obtain⟨A5,c5,rfl⟩:=zi zks.nx;obtain⟨B5,d5,rfl⟩:=zi zks.acc;obtain⟨f1,f2⟩:=zks.fin (N:=M+10) (sh:=BdA (L+13)) V bz rfl hRl oM a2 oM aT.out;have bz5:=bz.dr zks.dr oM;have cG:=zks.blk.cell;have cZ:=bz5.cell;have fZ:=bz5.frozen;go_wp2_with fail
  have cf:=f2.cell;exact bodyPost_ret (v:=kO #[al,fQ A5 C.length c5,fQ B5 o.length d5]) (by simp [results,Tryz.results77,go_sem,cf]) rfl f1.out
theorem yT16a2 {P:Prop}(h:P:=by
 go_wp2_with (at_builtin;refine zV w wr rfl _ _ _ rfl 9 _ 1 16 Tryz.underlying88 zt rfl dM u5 _ _ _ _ rfl rfl zkt zkr rfl (zcC _) lM oM ?_;intro v' w1 hext1 zkA hg1 hat1)
 go_roundw
 case rel=>exact⟨k+1,k+1,l++[s.extract m k],oM,gM,oM,gM,by simp;omega,by simpa [zO] using zkA,hall.out,aM⟩
 case measure=>simp [intOf];omega
 ):P:=h
theorem spec_l19CutC (hs:s.size<=1000000) :
  kQ kN 250 #[s,.int .u8 44] w (RetStrs s.size (s.size+1) w):=by
 go_enter Tryz.func250,Tryz.ntmps250
 go_wp2_with fail
 go_loopw [5,6,7] (fun v f i wr=>∃ (k m:Nat) (l:List ByteArray),k<=s.size+1/\i=.int kA k/\m<=k/\f=.int kA m/\l.length<=k/\wr.ownsRow w.heap.size 9 1 v l.length (zO l)/\Hid (∀ x∈l,x.size<=s.size)/\Ext w wr) (fun _ _ i _=>s.size+1 - (intOf i).toNat)
 case atStart=>exact⟨0,0,[],dH _,rfl,dD _,rfl,dD _,World.ownsRow_lit w #[] 0 (dD _) lM rfl,(fun x hx=>by cases hx),(dB _).alloc _⟩
 case round =>
  obtain⟨k,m,l,hk,rfl,p,rfl,o,zkr,a,zkt⟩:=hrel
  by_cases hle:k<=s.size
  ·have h:(k:Int)<=(s.size:Int):=oM;have j:(m:Int)<=(k:Int):=oM;have d:=za (show (s.extract m k).size<=s.size by rw [ByteArray.size_extract];omega);have hall:=za (show ∀ x∈l++[s.extract m k],x.size<=s.size from fun x hx=>by
    rcases kY.1 hx with h1|h1
    ·exact a.out x h1
    ·rw [lA.1 h1];exact d.out)
   by_cases he:k=s.size
   ·have b:((k:Int)==(s.size:Int))=kC:=by simp [he]
    have n:=za he;clear he;exact yT16a2
   ·have b:((k:Int)==(s.size:Int))=kK:=by rw [beq_eq_false_iff_ne];omega
    have g:k<s.size:=oM;have hb:=zcJ s k g;cases hc:((s[k].toNat:Int)==44)
    ·go_wp2_with fail
     go_roundw
     case rel=>exact⟨k+1,m,l,oM,gM,oM,rfl,oM,zkr,a,zkt⟩
     case measure=>exact uM
    ·exact yT16a2
  ·obtain rfl:k=s.size+1:=oM;obtain⟨A,c,rfl⟩:=zi zkr;go_wp2_with fail
   go_ret;exact⟨A,_,c,l,rfl,rfl,zkr,a.out,oM,zkt⟩
def RetIntsS (N:Nat) (w:kJ) (e:Ending) (w':kJ):Prop:=∃ (A:Option Addr) (n c:Nat) (l:List Int) (ok:Bool),e=kP (.tuple #[fQ A n c,.bool ok])/\n=l.length/\w'.ownsRow w.heap.size 3 1 (fQ A n c) n (ints l)/\n<=N/\Ext w w'
theorem spec_l3Parse (hs:s.size<=1000) :
  kQ kN 252 #[s] w (RetIntsS (s.size+1) w):=by
 have g:=World.ownsRow_lit (base:=w.heap.size) (e:=3) (size:=1) w #[] 0 (dD _) lM rfl
 go_enter Tryz.func252,Tryz.ntmps252
 go_upto_region 2 with fail
 obtain⟨K,hK⟩:∃ K,Hid (K=w.heap.size):=⟨_,za rfl⟩;rw [<- hK.out] at g ⊢;generalize U0:w.alloc _=w1 at *;have r:=Ext.al_ U0;clear U0;cases he:s.toList.isEmpty
 ·go_wp2_with fail
  refine (spec_l19CutC (s:=s) oM).mono ?_;rintro e S ⟨B,m,d,l,rfl,o,t,n,J,c⟩;have q:=r.trans c;have h:=zh g c;have z:=za n;have M:=za o;have G:m<=s.size+1:=J;clear n o g he J;go_wp2_with fail
  go_loopw [4,6] (fun v iv wr=>∃ (k:Nat) (f:List Int),k<=m/\iv=.int kA (k:Nat)/\wr.ownsRow K 3 1 v k (ints f)/\Hid (f.length=k)/\wr.ownsRow w1.heap.size 9 1 (fQ B m d) m (zO l)/\Ext w wr) (fun _ iv _=>m - (intOf iv).toNat)
  case atStart=>exact⟨0,[],dH _,rfl,h,za rfl,t,q⟩
  case round =>
   clear h t q c;obtain⟨k,f,hk,rfl,p,i,a,u⟩:=hrel;obtain⟨y,C,rfl⟩:=zi p
   by_cases hlt:k<m
   ·obtain⟨R,rfl,-,-⟩:=zW a oM;obtain⟨Q,L,D,-,-,I,F⟩:=(Reads.af a).str hlt;obtain rfl:=kS D;rw [zZ,eK] at F;have E:=za (z.out L (dC I.out));go_wp2_with fail
    refine (zek (s:=L) (oH E.out)).mono ?_;rintro e T ⟨x,O,rfl,rfl⟩;cases O
    ·go_wp2_with fail
     exact bodyPost_ret (v:=.tuple #[(),.bool kK]) (by simp [results,Tryz.results252,go_sem]) rfl ⟨gP,0,0,[],kK,rfl,rfl,World.ownsRow_nil _ _ _ _,oM,u⟩
    ·have H:=u.size;go_wp2_with (at_builtin;refine zL w wr rfl _ _ _ rfl 3 _ 1 8 Tryz.underlying110 zT rfl dM (fQ y k C) k (ints f) _ _ rfl rfl H (by rw [<- hK.out];exact p) rfl (by simp [Value.oneCell']) lM oM ?_;intro g5 cap5 w5 zkD hg5 hat5 hlt5)
     go_roundw
     case rel=>exact⟨k+1,f++[x],oM,gM,by rw [hK.out];simpa [ints] using zkD,za (by have:=i.out;simp;omega),zf a (fF hg5) (fun b hb hS=>zan a p dM hb hS),u.grown hg5 (fun j hj=>by have:=(p.lt j hj).1;have:=hK.out;omega)⟩
     case measure=>exact uM
   ·obtain rfl:k=m:=oM;go_wp2_with fail
    exact bodyPost_ret (v:=.tuple #[fQ y k C,.bool kC]) (by simp [results,Tryz.results252,go_sem]) rfl ⟨y,k,C,f,kC,rfl,i.out.symm,by rw [<- hK.out];exact p,G,u⟩
 ·go_wp2_with fail
  exact bodyPost_ret (v:=.tuple #[fQ (gO K) 0 0,.bool kC]) (by simp [results,Tryz.results252,go_sem]) rfl ⟨gO ⟨w.heap.size,0,gP⟩,0,0,[],kC,by rw [hK.out],rfl,by rw [hK.out] at g;exact g,oM,r⟩
theorem autValid_few (h:zj a=kC):∃ al:Nat,a.al=al/\al<64/\1<=a.next.length/\a.next.length<=12/\a.acc.length=a.next.length/\∀ l∈a.next,l.length=(letters al 6).length/\∀ q∈l,0<=q/\q<a.next.length:=by
 simp only [zj,Bool.and_eq_true,decide_eq_true_eq,List.all_eq_true,zjX] at h;obtain⟨h1,b,h3,c⟩:=h;refine⟨a.al.toNat,oM,oM,b.1,b.2,h3,fun l hl=>⟨(c l hl).1,fun q hq=>(c l hl).2 q hq⟩⟩
def RetFmtA (a:Aut) (w:kJ) (e:Ending) (w':kJ):Prop:=∃ t:ByteArray,e=kP (.string t)/\(zj a=kK->t.size=0)/\Ext w w'
theorem zfl {lo:Nat}(h:zF w lo hi A n A' n' a) :
  kQ kN 253 #[kO #[a.al,fQ A n c,fQ A' n' c']] w (RetFmtA a w):=by
 have Z:=za (fun W (hW:Ext w W)=>zU lo hi A n c A' n' c' a W ⟨h.1.ext hW,h.2.1,h.2.2.ext hW⟩);cases h1:zj a
 ·have J:=za h1;clear h1 h
  go_enter Tryz.func253,Tryz.ntmps253
  go_wp2_with (go_at_call 79;refine (Z.out _ ((dB _).alloc _)).mono ?_;rw [J.out];rintro e w1 ⟨rfl,H⟩)
  go_ret;exact⟨_,rfl,fun _=>rfl,((dB _).alloc _).trans H⟩
 ·obtain⟨al,ha,L,hn1,R,M,b⟩:=autValid_few h1;have J:=za h1;have Hn:=za h.n1;have aj:=za h.n2;have Ha:=za ha;have f:=za b;have HS:=za (fun W (hW:Ext w W)=>h.1.ext hW);have HB:=za (fun W (hW:Ext w W)=>h.2.2.ext hW);have e1:n=n':=by have:=h.n1;have:=h.n2;omega
  subst e1;have au:n<=12:=oH h.n1;clear h1 ha hn1 R M b h
  go_enter Tryz.func253,Tryz.ntmps253
  go_wp2_with fail
  refine (Z.out _ ((dB _).alloc _)).mono ?_;rw [J.out];rintro e w1 ⟨rfl,H⟩;have b1:=zcA H;rw [Ha.out] at b1;have o:=((dB w).alloc _).trans H;have cb:=b1.cells;have V:=dB w1;clear H;go_wp2_with fail
  refine (zbW L).mono ?_;rintro e w2 ⟨s,rfl,F,I⟩;go_wp2_with fail
  go_loopw [3,4] (fun v i wr=>∃ (k:Nat) (t:ByteArray),k<=n/\i=.int kA k/\v=.string t/\t.size<=20+100*k/\Ext w1 wr) (fun _ i _=>n - (intOf i).toNat)
  case atStart=>exact⟨0,s,dH _,rfl,rfl,oM,I⟩
  case round =>
   clear I F V;obtain⟨k,t,hk,rfl,rfl,ht,zkt⟩:=hrel;have C:=cb wr zkt
   by_cases hlt:k<n
   ·obtain⟨ad,Ak,ck,l,rfl,_,_,hl,g,E⟩:=(HS.out wr (o.trans zkt)).row hlt;obtain⟨ak,x,rfl,_,_,-,O⟩:=(HB.out wr (o.trans zkt)).bool hlt;have hq:=za (f.out l (dC hl.out));have aq:l.length<=6:=by have:=hq.out.1;have:=zB al 6;omega
    have B:=za (fun W (hW:Ext wr W)=>E.ext hW);have z:=za (fun W (hW:Ext wr W)=>hW.aa g);have y:=za (fun W (hW:Ext wr W)=>cb W (zkt.trans hW));have r:=dB wr;clear E;go_upto_if 24 with fail
    go_cut [5] (fun s5 wx=>∃ m:ByteArray,s5=.string m/\m.size=2/\Ext wr wx)
    case first =>
     cases x
     ·go_wp2_with fail
      go_meet;exact⟨{ data:=#[32,45] },rfl,rfl,r⟩
     ·go_wp2_with fail
      go_meet;exact⟨{ data:=#[32,43] },rfl,rfl,r⟩
    case rest =>
     clear g O C r;obtain⟨m,rfl,Q,p⟩:=hcut;obtain⟨Y,G⟩:∃ Y,Y=wr:=⟨_,rfl⟩;rw [<- G] at B z y p zkt;clear G;have q0:¬ 9223372036854775807<t.size+m.size:=oM;have av:(t++m).size=t.size+2:=by rw [ByteArray.size_append,Q]
     go_upto_region 11 with fail
     generalize t++m=t1 at *;clear q0;go_wp2_with fail
     go_loopw [3,6] (fun v jv wr=>∃ (j:Nat) (t:ByteArray),j<=l.length/\jv=.int kA j/\v=.string t/\t.size<=22+100*k+10*j/\Ext Y wr) (fun _ jv _=>l.length - (intOf jv).toNat)
     case atStart=>exact⟨0,t1,dH _,rfl,rfl,oM,p⟩
     case round =>
      clear p;obtain⟨j,s,hj,rfl,rfl,F,d⟩:=hrel;have C:=y.out wr d;have g:=z.out wr d
      by_cases hjl:j<l.length
      ·obtain⟨am,q,rfl,-,-,U,ao⟩:=(B.out wr d).int hjl;obtain⟨S,T⟩:=hq.out.2 q (dC U.out);obtain⟨u,rfl⟩:∃ u:Nat,q=u:=⟨q.toNat,oM⟩;have hu:u<100:=oH Hn.out;clear S T;go_upto_if 39 with fail
       go_cut [3] (fun s3 wx=>∃ m:ByteArray,s3=.string m/\m.size<=s.size+1/\wx=wr)
       case first =>
        by_cases hj0:0<j
        ·have D:((j:Int)>0):=oM;have q1:¬ 9223372036854775807<s.size+1:=oM;go_wp2_with fail
         go_meet;exact⟨_,rfl,by rw [ByteArray.size_append];exact dD _,rfl⟩
        ·have D:¬ ((j:Int)>0):=oM;go_wp2_with fail
         go_meet;exact⟨s,rfl,oM,rfl⟩
       case rest =>
        obtain⟨m3,rfl,ar,rfl⟩:=hcut;go_wp2_with fail
        refine (zej (n:=u) hu).mono ?_;rintro e w4 ⟨t4,rfl,aw,X⟩;have q2:¬ 9223372036854775807<m3.size+t4.size:=oM;go_wp2_with fail
        go_roundw
        case rel=>exact⟨j+1,_,oM,gM,rfl,by rw [ByteArray.size_append];omega,d.trans X⟩
        case measure=>exact uM
      ·obtain rfl:j=l.length:=oM;go_wp2_with fail
       go_roundw
       case rel=>exact⟨k+1,s,oM,gM,rfl,oM,zkt.trans d⟩
       case measure=>exact uM
   ·obtain rfl:n=k:=oM;go_wp2_with fail
    go_ret;have hv:=J.out;exact⟨t,rfl,fun h=>absurd (hv.symm.trans h) dM,o.trans zkt⟩
def RetStrs1 (L N:Nat) (w:kJ) (e:Ending) (w':kJ):Prop:=∃ (A:Option Addr) (n c:Nat) (l:List ByteArray),e=kP (fQ A n c)/\n=l.length/\0<n/\w'.ownsRow w.heap.size 9 1 (fQ A n c) n (zO l)/\(∀ x∈l,x.size<=L)/\n<=N/\Ext w w'
theorem spec_l19Cut1 (hs:s.size<=1000000) :
  kQ kN 250 #[s,.int .u8 32] w (RetStrs1 s.size (s.size+1) w):=by
 go_enter Tryz.func250,Tryz.ntmps250
 go_wp2_with fail
 go_loopw [5,6,7] (fun v f i wr=>∃ (k m:Nat) (l:List ByteArray),k<=s.size+1/\i=.int kA k/\m<=k/\f=.int kA m/\l.length<=k/\wr.ownsRow w.heap.size 9 1 v l.length (zO l)/\Hid (∀ x∈l,x.size<=s.size)/\Ext w wr/\Hid (s.size<k->0<l.length)) (fun _ _ i _=>s.size+1 - (intOf i).toNat)
 case atStart=>exact⟨0,0,[],dH _,rfl,dD _,rfl,dD _,World.ownsRow_lit w #[] 0 (dD _) lM rfl,(fun x hx=>by cases hx),(dB _).alloc _,za (fun hh=>absurd hh oM)⟩
 case round =>
  obtain⟨k,m,l,hk,rfl,q,rfl,p,zkr,a,zkt,b⟩:=hrel
  by_cases hle:k<=s.size
  ·have j:(k:Int)<=(s.size:Int):=oM;have n:(m:Int)<=(k:Int):=oM;have g:=za (show (s.extract m k).size<=s.size by rw [ByteArray.size_extract];omega);have hall:=za (show ∀ x∈l++[s.extract m k],x.size<=s.size from fun x hx=>by
    rcases kY.1 hx with h1|h1
    ·exact a.out x h1
    ·rw [lA.1 h1];exact g.out)
   by_cases he:k=s.size
   ·have d:((k:Int)==(s.size:Int))=kC:=by simp [he]
    have o:=za he;clear he;go_wp2_with (at_builtin;refine zV w wr rfl _ _ _ rfl 9 _ 1 16 Tryz.underlying88 zt rfl dM u5 _ _ _ _ rfl rfl zkt zkr rfl (zcC _) lM oM ?_;intro v' w1 hext1 zkA hg1 hat1)
    go_roundw
    case rel=>exact⟨k+1,k+1,l++[s.extract m k],oM,gM,oM,gM,by simp;omega,by simpa [zO] using zkA,hall.out,aM,za (fun _=>sM)⟩
    case measure=>exact uM
   ·have d:((k:Int)==(s.size:Int))=kK:=by rw [beq_eq_false_iff_ne];omega
    have h:k<s.size:=oM;have hb:=zcJ s k h;cases hc:((s[k].toNat:Int)==32)
    ·go_wp2_with fail
     go_roundw
     case rel=>exact⟨k+1,m,l,oM,gM,oM,rfl,oM,zkr,a,zkt,za (fun hh=>absurd hh oM)⟩
     case measure=>exact uM
    ·go_wp2_with (at_builtin;refine zV w wr rfl _ _ _ rfl 9 _ 1 16 Tryz.underlying88 zt rfl dM u5 _ _ _ _ rfl rfl zkt zkr rfl (zcC _) lM oM ?_;intro v' w1 hext1 zkA hg1 hat1)
     go_roundw
     case rel=>exact⟨k+1,k+1,l++[s.extract m k],oM,gM,oM,gM,by simp;omega,by simpa [zO] using zkA,hall.out,aM,za (fun _=>sM)⟩
     case measure=>exact uM
  ·obtain rfl:k=s.size+1:=oM;obtain⟨A,c,rfl⟩:=zi zkr;go_wp2_with fail
   go_ret;exact⟨A,_,c,l,rfl,rfl,b.out oM,zkr,a.out,oM,zkt⟩
end Go.Proofs.YtckbjnndaaoddaaGreatDoor
