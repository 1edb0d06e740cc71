/- The law FnCh -/
import Derived.Test.YtckbjnndaaoddaaGreatDoorY18
set_option maxHeartbeats 4000000
set_option maxRecDepth 100000
namespace Go.Proofs.YtckbjnndaaoddaaGreatDoor
open Go Go.RowKit
open Ext renaming bl_->eS,refl->dE
open Frm renaming setCell->eB
theorem vd_put {w W:World} {G:Nat}(hx:Ext w W)(hb:Blk W G 42 #[(0:Int),(0:Int),(),(),.string ⟨#[]⟩,(0:Int)])(hG:w.heap.size<=G) (v:Vd) (Z1:Option Addr) (z1 y1:Nat) (Z2:Option Addr) (z2 y2:Nat) :
  Blk ((((((W.setCell G v.code).setCell ⟨G,1,none⟩ v.asm.al).setCell ⟨G,2,none⟩ (.slice Z1 z1 y1)).setCell ⟨G,3,none⟩ (.slice Z2 z2 y2)).setCell ⟨G,4,none⟩ v.tr).setCell ⟨G,5,none⟩ v.ro) G 42 #[v.code,v.asm.al,.slice Z1 z1 y1,.slice Z2 z2 y2,v.tr,v.ro] ∧
  Ext w ((((((W.setCell G v.code).setCell ⟨G,1,none⟩ v.asm.al).setCell ⟨G,2,none⟩ (.slice Z1 z1 y1)).setCell ⟨G,3,none⟩ (.slice Z2 z2 y2)).setCell ⟨G,4,none⟩ v.tr).setCell ⟨G,5,none⟩ v.ro):=
 ⟨by simpa using (((((hb.ab 0 (.int .i64 v.code)).ab 1 (.int .i64 v.asm.al)).ab 2 (.slice Z1 z1 y1)).ab 3 (.slice Z2 z2 y2)).ab 4 (.string v.tr)).ab 5 (.int .i64 v.ro),
  hx.frm ((((((eB W G 0 _).trans (eB _ G 1 _)).trans (eB _ G 2 _)).trans (eB _ G 3 _)).trans (eB _ G 4 _)).trans (eB _ G 5 _)) (fun k hk e=>by have e':k=G:=e;omega)⟩
theorem yZLawVGroupa1 {P:Prop}(h:P:=by
 have k_b1:=b1.cells;have k_bv:=bv.cells;have hww:Ext w4 w4:=Ext.refl _;refine uR (fun X=>Ext w4 X) [] (zw.of [0,1,2,3,4,5,6,7,8,9,10,11,12,13,14,15]) ?_;refine uQ ?_;have hwd:Ext w4 w4.drew:=(Ext.refl w4).drew;generalize w4.drew=wd at *;refine ze fun K hK=>?_;go_simp;refine (HR.out _ (hcur.trans hwd)).mono ?_;rintro e wy ⟨X1,x1_,y1_,X2,x2_,y2_,X3,x3_,y3_,X4,x4_,y4_,rfl,qq1,qq2,hy⟩;have hcy:=hwd.trans hy;refine hK.out _ _ hcy ?_;refine pT ?_;refine ze fun K hK=>?_;go_simp;skip;refine (agChainVerdicts_same (v:=v) (rV.ext hcy) qq1.reads (rW.ext hcy) qq2.reads).mono (mQ fun w6 hxo=>?_);have hxx:=hcy.trans hxo;refine hK.out _ _ (hcy.trans hxo) ?_;refine pT ?_;refine uQ ?_;refine zg ?_;clear hww k_b1 k_bv;clear hwd hy hcy qq1 qq2 hxo;replace b1:=b1.ext hxx;replace bv:=bv.ext hxx;replace rV:=rV.ext hxx;replace rW:=rW.ext hxx;replace hcur:=hcur.trans hxx;clear hxx;have k_b1:=b1.cell;have k_bv:=bv.cell;go_upto_region 6 with fail
 clear k_b1 k_bv;have k_b1:=b1.cells;have k_bv:=bv.cells;have hww:Ext w6 w6:=Ext.refl _;refine uR (fun X=>Ext w6 X) [4] (zw.of [0,1,2,3,4,5]) ?_;refine uQ ?_;have hwd:Ext w6 w6.drew:=(Ext.refl w6).drew;generalize w6.drew=wd at *;refine ze fun K hK=>?_;go_simp;refine (HR.out _ (hcur.trans hwd)).mono ?_;rintro e wy ⟨X1,x1_,y1_,X2,x2_,y2_,X3,x3_,y3_,X4,x4_,y4_,rfl,qq1,qq2,hy⟩;have hcy:=hwd.trans hy;refine hK.out _ _ hcy ?_;refine pT ?_;refine zb fun K hK=>?_;go_simp;refine (agChainVerdicts_same (v:=v) (rV.ext hcy) qq1.reads (rW.ext hcy) qq2.reads).mono (mQ fun w7 hxo=>?_);have hxx:=hcy.trans hxo;refine hK.out _ _ ?_;refine pT ?_;refine uQ ?_;refine zg ?_;clear hww k_b1 k_bv;clear hwd hy hcy qq1 qq2 hxo;replace b1:=b1.ext hxx;replace bv:=bv.ext hxx;replace rV:=rV.ext hxx;replace rW:=rW.ext hxx;replace hcur:=hcur.trans hxx;clear hxx;have k_b1:=b1.cell;have k_bv:=bv.cell;go_wp2_with fail
 go_ret;exact⟨zu sM,hx1.trans hcur⟩
 ):P:=h
theorem yZLawVGroupa2 {P:Prop}(h:P:=by
 have kz:=bz.cell;have fz:=bz.frozen;have hGw:=za (hge6);have hf:Frm (fun b=>b=G6) w8 (((w8.setCell G6 cc.al).setCell ⟨G6,1,none⟩ cc.st).setCell ⟨G6,2,none⟩ (.slice A7 n7 c7)):=((Frm.setCell w8 G6 0 _).trans (Frm.setCell _ G6 1 _)).trans (Frm.setCell _ G6 2 _);have hB:=za (show Blk (((w8.setCell G6 cc.al).setCell ⟨G6,1,none⟩ cc.st).setCell ⟨G6,2,none⟩ (.slice A7 n7 c7)) G6 38 #[cc.al,cc.st,.slice A7 n7 c7] by simpa using ((bz.ab 0 (.int .i64 cc.al)).ab 1 (.int .i64 cc.st)).ab 2 (.slice A7 n7 c7));have hX:=za (hxa.frm hf (fun b hb e=>by have e':b=G6:=e;have:=hGw.out;omega));have hS:=za ((h7.ext hsa).frm hf (fun b h1 h2 e=>by have e':b=G6:=e;omega));clear hf;refine zb fun K hK=>?_;go_simp;refine hK.out _ _ ?_;refine pT ?_;refine uQ ?_;refine zg ?_;clear kz fz bz hxa;go_wp2_with fail
 go_meet;exact⟨G6,true,cc,A7,n7,c7,rfl,rfl,hB,za (fun _=>⟨hcomp.out,_,_,hS.out⟩),hX⟩
 ):P:=h
theorem yZLawVGroupa3 {P:Prop}(h:P:=by
 have kz:=bz.cell;have fz:=bz.frozen;have hGw:=za (hge6);have hf:Frm (fun b=>b=G6) w8 (((w8.setCell G6 (0:Int)).setCell ⟨G6,1,none⟩ (0:Int)).setCell ⟨G6,2,none⟩ ()):=((Frm.setCell w8 G6 0 _).trans (Frm.setCell _ G6 1 _)).trans (Frm.setCell _ G6 2 _);have hB:=za (show Blk (((w8.setCell G6 (0:Int)).setCell ⟨G6,1,none⟩ (0:Int)).setCell ⟨G6,2,none⟩ ()) G6 38 #[(0:Int),(0:Int),()] by simpa using ((bz.ab 0 (.int .i64 0)).ab 1 (.int .i64 0)).ab 2 (.slice none 0 0));have hX:=za (hxa.frm hf (fun b hb e=>by have e':b=G6:=e;have:=hGw.out;omega));clear hf;refine zb fun K hK=>?_;go_simp;refine hK.out _ _ ?_;refine pT ?_;refine uQ ?_;refine zg ?_;clear kz fz bz hxa;go_wp2_with fail
 go_meet;exact⟨G6,false,⟨0,0,[]⟩,none,0,0,rfl,rfl,hB,za (fun h=>by cases h),hX⟩
 ):P:=h
theorem yZLawVGroupa4 {P:Prop}(h:P:=by
 refine zb fun K hK=>?_;go_simp;refine hK.out _ _ ?_;refine zg ?_;clear kz fz;go_wp2_with fail
 go_meet;exact⟨G8,Z1,z1,y1,Z2,z2,y2,rfl,hB,hXX⟩
 ):P:=h
theorem law_ChainGroup {A0:Option Addr} {n0 c0:Nat} {w:World}(h:Bytes w A0 n0)(hn:n0<=9223372036854775807)(hc:n0<=c0)(hc2:c0<=9223372036854775807)(hT:Tab w) :
  Calls Tryz.prog 3 #[.slice A0 n0 c0] w fun e w'=>e=.returned (.bool true)∧Ext w w':=by
 have Hh:=za h;have HT:=za (fun W (hW:Ext w W)=>hT.ext hW);clear h hT
 by_cases hbig:1048576<n0
 ·have l:(1048576:Int)<(n0:Int):=oM
  go_enter Tryz.func3,Tryz.ntmps3
  go_wp2;go_ret;exact⟨rfl,dE _⟩
 have l:(n0:Int)<=1048576:=oM;clear hbig
 go_enter Tryz.func3,Tryz.ntmps3
 go_upto_region 4 with (first
  |(go_at_call 15;refine (spec_DrawVerifyChain Hh.out hn hc hc2).mono ?_;rintro e T ⟨S,k,g,c,p,A,n,c1,A',n',c2,hk,bf,bg,rfl,Y,hp,-,hx1⟩))
 clear l hn hc hc2;have U:=za (fun W (hW:Ext T W)=>Y.ext hW);have HP:=za (fun W (hW:Ext T W)=>hp.ext hW);have I:=za (fun W (hW:Ext T W)=>HT.out W (hx1.trans hW));have HI:=za (fun W (hW:Ext T W)=>impl_VerifyChain (c:=c) (d:=c1) (d':=c2) (U.out _ hW) (HP.out _ hW) (I.out _ hW) hW.size hW.size);have HR:=za (fun W (hW:Ext T W)=>spec_VerifyChainA (c:=c) (d:=c1) (d':=c2) (U.out _ hW) (HP.out _ hW) hW.size hW.size);have ao:=za (fun (h:(vcT S p).code≠3)=>vcT_valid h);have HQ:=za (fun (x y z c:Sys) (hs:S=[x,y,z]) (hc:zfC y z z.st.toNat c) (h3:(vcT S p).code≠3) (h2:(vcT S p).code≠2)=>show (vpT x c p).code=(vcT S p).code∧(vpT x c p).tr=(vcT S p).tr from by
  subst hs;exact chain_group hc h3 h2)
 generalize vcT S p=v at *;clear Y hp Hh HT;generalize U0:T.alloc _=w2 at *;obtain⟨hcur,b1⟩:=Ext.x1_ U0;clear U0;generalize T.heap.size=G at *;have k_b1:=b1.cell;go_upto_region 99 with fail
 refine (HI.out _ hcur).mono ?_;rintro e w3 ⟨B,m,d,B',m',d',C,q,e1,C',q',aC,bl,rfl,o1,o2,-,ad⟩;clear k_b1;replace b1:=b1.ext ad;replace hcur:=hcur.trans ad;have rV:=o1.own.reads;have rW:=o2.reads;clear o1 o2;go_upto_region 5 with fail
 have hxa:=(dE w3).alloc (.cells #[v.code,v.fst.al,.slice B m d,.slice B' m' d',v.snd.al,.slice C q e1,.slice C' q' aC,v.tr,v.ro] 33);replace b1:=b1.ext hxa;replace rV:=rV.ext hxa;replace rW:=rW.ext hxa;replace hcur:=hcur.trans hxa;clear hxa;generalize U0:w3.alloc _=w4 at *;have bv:=eS U0;clear U0;generalize w3.heap.size=a5 at *
 by_cases hv3:v.code=3
 case pos =>
  have e3:(v.code==3)=true:=by simpa using hv3
  have a8:=za hv3;clear hv3;exact yZLawVGroupa1
 case neg =>
  have e3:(v.code==3)=false:=by simpa using hv3
  have H3:=za (ao.out hv3);obtain⟨O,Q,vp⟩:=zgd.1 H3.out;obtain⟨-,r⟩:=zao Q;have a9:=za r;obtain⟨x,y,z,j⟩:=zdX H3.out;have aq:=za j
  by_cases hv2:v.code=2
  case pos =>
   have e2:(v.code==2)=true:=by simpa using hv2
   clear hv2 hv3 O Q r j vp;exact yZLawVGroupa1
  case neg =>
   have e2:(v.code==2)=false:=by simpa using hv2
   have k_b1:=b1.cells;have k_bv:=bv.cells;have hww:Ext w4 w4:=dE _;refine uR (fun X=>Ext w4 X) [] (zw.of [0,1,2,3,4,5,6,7,8,9,10,11,12,13,14,15]) ?_;refine uQ ?_;have hwd:Ext w4 w4.drew:=(dE w4).drew;generalize w4.drew=wd at *;refine ze fun K hK=>?_;go_simp;refine (HR.out _ (hcur.trans hwd)).mono ?_;rintro e wy ⟨X1,x1_,y1_,X2,x2_,y2_,X3,x3_,y3_,X4,x4_,y4_,rfl,qq1,qq2,hy⟩;have hcy:=hwd.trans hy;refine hK.out _ _ hcy ?_;refine pT ?_;refine ze fun K hK=>?_;go_simp;skip;refine (agChainVerdicts_same (v:=v) (rV.ext hcy) qq1.reads (rW.ext hcy) qq2.reads).mono (mQ fun w6 hxo=>?_);have hxx:=hcy.trans hxo;refine hK.out _ _ (hcy.trans hxo) ?_;refine pT ?_;refine uQ ?_;refine zg ?_;clear hww k_b1 k_bv;clear hwd hy hcy qq1 qq2 hxo;replace b1:=b1.ext hxx;replace bv:=bv.ext hxx;replace rV:=rV.ext hxx;replace rW:=rW.ext hxx;replace hcur:=hcur.trans hxx;clear hxx;have aG:=hv2;have am:=za (fun (c:Sys) (hc:zfC y z z.st.toNat c)=>HQ.out x y z c aq.out hc hv3 hv2);rw [j] at U;have vy:=r y (by rw [j];simp);have vz:=r z (by rw [j];simp);obtain⟨A8,n8,c8,ae,af,ag,aa⟩:=(U.out _ hcur).ax (k:=1) (s:=y) rfl;obtain⟨A9,n9,c9,ah,ai,aj,ab⟩:=(U.out _ hcur).ax (k:=2) (s:=z) rfl;obtain⟨A6,n6,c6,D,E,F,Z⟩:=(U.out _ hcur).ax (k:=0) (s:=x) rfl;have aE:k=3:=by rw [hk.out,O]
   subst aE;have H:=za (fun W (hW:Ext w6 W)=>impl_ComposeSystems (c:=c8) (d:=c9) (aa.ext hW) (ab.ext hW) (I.out _ (hcur.trans hW)) vy vz);have HX:=za (fun W (hW:Ext w6 W)=>Z.ext hW);have J:∀ W,Ext w6 W->W.cell? g=some (.int .i64 x.al):=fun W hW=>hW.aa D;have L:∀ W,Ext w6 W->W.cell? ⟨g,1,none⟩=some (.int .i64 x.st):=fun W hW=>hW.aa E;have M:∀ W,Ext w6 W->W.cell? ⟨g,2,none⟩=some (.slice A6 n6 c6):=fun W hW=>hW.aa F;have aw:∀ W,Ext w6 W->W.cell? ⟨g,3,none⟩=some (.int .i64 y.al):=fun W hW=>hW.aa ae;have ax:∀ W,Ext w6 W->W.cell? ⟨g,4,none⟩=some (.int .i64 y.st):=fun W hW=>hW.aa af;have ay:∀ W,Ext w6 W->W.cell? ⟨g,5,none⟩=some (.slice A8 n8 c8):=fun W hW=>hW.aa ag;have az:∀ W,Ext w6 W->W.cell? ⟨g,6,none⟩=some (.int .i64 z.al):=fun W hW=>hW.aa ah;have aA:∀ W,Ext w6 W->W.cell? ⟨g,7,none⟩=some (.int .i64 z.st):=fun W hW=>hW.aa ai;have aB:∀ W,Ext w6 W->W.cell? ⟨g,8,none⟩=some (.slice A9 n9 c9):=fun W hW=>hW.aa aj;clear hv2 hv3 O Q r j vp vy vz aG ae af ag ah ai aj D E F Z aa ab rV rW;have k_bv:=bv.cells;go_upto_region 7 with fail
   clear k_bv
   go_cut [6,7] (fun v6 v7 wx=>∃ (G6:Nat) (u:Bool) (cc:Sys) (A7:Option Addr) (n7 c7:Nat),v6=.pointer (some G6)∧v7=.bool u∧Hid (Blk wx G6 38 #[cc.al,cc.st,.slice A7 n7 c7])∧Hid (u=true->zfC y z z.st.toNat cc∧∃ lo hi,zV wx lo hi A7 n7 cc)∧Hid (Ext w6 wx))
   case first =>
    have hww:Ext w6 w6:=dE _;have t:Ext w6 w6.drew:=hww.drew;refine uR (fun X=>Ext w6 X) [11] (zw.app [0,1,2,3,4,5] (zw.two 6 (zw.of [7,8,9,10,11,12]) 10 (zw.of [6,7,8,9,11,12]))) ?_;refine uQ ?_;have hwd:Ext w6 w6.drew:=t;generalize w6.drew=wd at *;refine zm (fun K hK=>?_) (fun K hK=>?_)
    ·go_simp;refine (H.out _ hwd).mono ?_;rintro e w7 (⟨rfl,a⟩|⟨cc,A7,n7,c7,rfl,hcomp,h7,a⟩)
     ·skip;have hge6:w6.heap.size<=w7.heap.size:=(hwd.trans a).size;refine hK.out _ _ (hwd.trans a) ?_;refine pT ?_;refine uQ ?_;refine ze fun K hK=>?_;go_simp;have hxa:=(hwd.trans a).alloc (.cells #[(0:Int),(0:Int),()] 38);have hsa:=(dE w7).alloc (.cells #[(0:Int),(0:Int),()] 38);refine hK.out _ _ hxa ?_;refine pT ?_;generalize U0:w7.alloc _=w8 at *;have bz:=eS U0;clear U0;generalize w7.heap.size=G6 at *;exact yZLawVGroupa3
     ·skip;have hge6:w6.heap.size<=w7.heap.size:=(hwd.trans a).size;refine hK.out _ _ (hwd.trans a) ?_;refine pT ?_;refine uQ ?_;refine ze fun K hK=>?_;go_simp;have hxa:=(hwd.trans a).alloc (.cells #[(0:Int),(0:Int),()] 38);have hsa:=(dE w7).alloc (.cells #[(0:Int),(0:Int),()] 38);refine hK.out _ _ hxa ?_;refine pT ?_;generalize U0:w7.alloc _=w8 at *;have bz:=eS U0;clear U0;generalize w7.heap.size=G6 at *;exact yZLawVGroupa2
    ·go_simp;have b:=(dE wd).alloc (.cells #[(0:Int),(0:Int),()] 38);have hge6:w6.heap.size<=wd.heap.size:=hwd.size;refine hK.out _ _ (hwd.trans b) ?_;refine pT ?_;generalize U0:wd.alloc _=wb at *;have i:=eS U0;have aT:=i.lt;clear U0;generalize wd.heap.size=G6 at *;refine ze fun K hK=>?_;go_simp;refine (H.out _ (hwd.trans b)).mono ?_;rintro e w7 (⟨rfl,a⟩|⟨cc,A7,n7,c7,rfl,hcomp,h7,a⟩)
     ·skip;refine hK.out _ _ ((hwd.trans b).trans a) ?_;have bz:=i.ext a;have hxa:=(hwd.trans b).trans a;refine pT ?_;obtain⟨w8,R⟩:∃ w8,w8=w7:=⟨_,rfl⟩;subst R;have hsa:=dE w8;refine uQ ?_;exact yZLawVGroupa3
     ·skip;refine hK.out _ _ ((hwd.trans b).trans a) ?_;have bz:=i.ext a;have hxa:=(hwd.trans b).trans a;refine pT ?_;obtain⟨w8,R⟩:∃ w8,w8=w7:=⟨_,rfl⟩;subst R;have hsa:=dE w8;refine uQ ?_;exact yZLawVGroupa2
   case rest =>
   obtain⟨G6,u,cc,A7,n7,c7,rfl,rfl,hB,hcomp,hX⟩:=hcut;cases u with
   |false =>
    go_wp2_with fail
    go_ret;exact⟨zu sM,hx1.trans (hcur.trans hX.out)⟩
   |true =>
    obtain⟨V,bj,bd,h7⟩:=hcomp.out rfl;have hq:=za (am.out cc V);have aD:=za h7;have HV:=za (fun W (hW:Ext wc W)=>zhD (c:=c6) (d:=c1) (d':=c2) (c2:=c7) (HX.out _ (hX.out.trans hW)) (HP.out _ (hcur.trans (hX.out.trans hW))) (aD.out.ext hW) (I.out _ (hcur.trans (hX.out.trans hW))));replace J:∀ W,Ext wc W->W.cell? g=some (.int .i64 x.al):=fun W hW=>J W (hX.out.trans hW);replace L:∀ W,Ext wc W->W.cell? ⟨g,1,none⟩=some (.int .i64 x.st):=fun W hW=>L W (hX.out.trans hW);replace M:∀ W,Ext wc W->W.cell? ⟨g,2,none⟩=some (.slice A6 n6 c6):=fun W hW=>M W (hX.out.trans hW);have aJ:=hB.out.cells;have aI:=(b1.ext hX.out).cells;have ap:=za (bv.ext hX.out);have aH:=za (hcur.trans hX.out);clear V h7 hcomp aw ax ay az aA aB b1 bv hB H HX hcur;go_upto_region 10 with fail
    go_cut [8] (fun v8 wx=>∃ (G8:Nat) (Z1:Option Addr) (z1 y1:Nat) (Z2:Option Addr) (z2 y2:Nat),v8=.pointer (some G8)∧Hid (Blk wx G8 42 #[.int .i64 (vpT x cc p).code,.int .i64 (vpT x cc p).asm.al,.slice Z1 z1 y1,.slice Z2 z2 y2,.string (vpT x cc p).tr,.int .i64 (vpT x cc p).ro])∧Hid (Ext wc wx))
    case first =>
     have hww:Ext wc wc:=dE _;have t:Ext wc wc.drew:=hww.drew;refine uR (fun X=>Ext wc X) [7] (zw.app [0,1,2,3,4] (zw.two 5 (zw.of [6,7]) 6 (zw.of [5,7]))) ?_;refine uQ ?_;have hwd:Ext wc wc.drew:=t;generalize wc.drew=wd at *;refine zm (fun K hK=>?_) (fun K hK=>?_)
     ·go_simp;refine (HV.out _ hwd).mono ?_;rintro e w7 ⟨Z1,z1,y1,Z2,z2,y2,rfl,-,a⟩;have o:wc.heap.size<=w7.heap.size:=(hwd.trans a).size;refine hK.out _ _ (hwd.trans a) ?_;refine pT ?_;refine ze fun K hK=>?_;go_simp;have hxa:=(hwd.trans a).alloc (.cells #[(0:Int),(0:Int),(),(),.string ⟨#[]⟩,(0:Int)] 42);refine hK.out _ _ hxa ?_;refine pT ?_;generalize U0:w7.alloc _=w8 at *;have bz:=eS U0;clear U0;generalize w7.heap.size=G8 at *;have kz:=bz.cell;have fz:=bz.frozen;have f:=vd_put hxa bz o (vpT x cc p) Z1 z1 y1 Z2 z2 y2;have hB:=za f.1;have hXX:=za f.2;clear f bz hxa;exact yZLawVGroupa4
     ·go_simp;have b:=(dE wd).alloc (.cells #[(0:Int),(0:Int),(),(),.string ⟨#[]⟩,(0:Int)] 42);have o:wc.heap.size<=wd.heap.size:=hwd.size;refine hK.out _ _ (hwd.trans b) ?_;refine pT ?_;generalize U0:wd.alloc _=wb at *;have i:=eS U0;clear U0;generalize wd.heap.size=G8 at *;refine ze fun K hK=>?_;go_simp;refine (HV.out _ (hwd.trans b)).mono ?_;rintro e w7 ⟨Z1,z1,y1,Z2,z2,y2,rfl,-,a⟩;refine hK.out _ _ ((hwd.trans b).trans a) ?_;refine pT ?_;have bz:=i.ext a;have hxa:=(hwd.trans b).trans a;have kz:=bz.cell;have fz:=bz.frozen;have f:=vd_put hxa bz o (vpT x cc p) Z1 z1 y1 Z2 z2 y2;have hB:=za f.1;have hXX:=za f.2;clear f bz i hxa;exact yZLawVGroupa4
    case rest =>
    obtain⟨G8,Z1,z1,y1,Z2,z2,y2,rfl,hB,hXX⟩:=hcut;have b8:=hB.out;rw [hq.out.1,hq.out.2] at b8;have bh:=b8.cell;have bi:=(ap.out.ext hXX.out).cell;clear aJ aI J L M hB hq HV b8;go_wp2_with fail
    go_ret;exact⟨zu sM,hx1.trans (aH.out.trans hXX.out)⟩
end Go.Proofs.YtckbjnndaaoddaaGreatDoor
