/- The law FnCh -/
import Derived.Test.YtcfchopfijalpaaGreatDoorA18
set_option maxHeartbeats 4000000
set_option maxRecDepth 100000
namespace Go.Proofs.YtcfchopfijalpaaGreatDoor
open Go Go.RowKit
open Ext renaming bl_->eJ,refl->dB
theorem yZLawVTurneda1 {P:Prop}(h:P:=by
 refine hK.out _ _ ?_;refine pT ?_;have cG:=bG.cell;have fG:=bG.frozen;refine zb fun K hK=>?_;go_simp;refine hK.out _ _ ?_;refine zg ?_;have hf:=vc_frm w9 Gu (.int .i64 u.code) (.int .i64 u.fst.al) (.slice Z1 z1 y1) (.slice Z2 z2 y2) (.int .i64 u.snd.al) (.slice Z3 z3 y3) (.slice Z4 z4 y4) (.string u.tr) (.int .i64 u.ro);have bV:=zij bG rfl (.int .i64 u.code) (.int .i64 u.fst.al) (.slice Z1 z1 y1) (.slice Z2 z2 y2) (.int .i64 u.snd.al) (.slice Z3 z3 y3) (.slice Z4 z4 y4) (.string u.tr) (.int .i64 u.ro);have Hf:=za (And.intro bV (hx3.frm hf (fun k hk e=>by have e':k=Gu:=e;omega)));clear hf bV hx3 cG fG bG;go_wp2_with fail
 go_meet;exact⟨Gu,Z1,z1,y1,Z2,z2,y2,Z3,z3,y3,Z4,z4,y4,rfl,Hf.out⟩
 ):P:=h
theorem law_ChainTurned {A0:Option Addr} {n0 c0:Nat} {w:World}(h:Bytes w A0 n0)(hn:n0<=9223372036854775807)(hc:n0<=c0)(hc2:c0<=9223372036854775807)(hT:Tab w) :
  Calls Tryz.prog 7 #[.slice A0 n0 c0] w fun e w'=>e=.returned (.bool true)∧Ext w w':=by
 have Hh:=za h;have HT:=za (fun W (hW:Ext w W)=>hT.ext hW);clear h hT
 by_cases hbig:1048576<n0
 ·have J:(1048576:Int)<(n0:Int):=oM
  go_enter Tryz.func7,Tryz.ntmps7
  go_wp2;go_ret;exact⟨rfl,dB _⟩
 have J:(n0:Int)<=1048576:=oM;clear hbig
 go_enter Tryz.func7,Tryz.ntmps7
 go_upto_region 4 with (first
  |(go_at_call 37;refine (spec_DrawVerifyChain Hh.out hn hc hc2).mono ?_;rintro e D ⟨ss,k,g,c,p,A,n,c1,A',n',c2,hk,bL,bM,rfl,S,hp,-,M⟩))
 clear J hn hc hc2;have HS:=za (fun W (hW:Ext D W)=>S.ext hW);have HP:=za (fun W (hW:Ext D W)=>hp.ext hW);have au:=za (fun W (hW:Ext D W)=>HT.out W (M.trans hW));have HI:=za (fun W (hW:Ext D W)=>impl_VerifyChain (c:=c) (d:=c1) (d':=c2) (HS.out _ hW) (HP.out _ hW) (au.out _ hW) hW.size hW.size);have HR:=za (fun W (hW:Ext D W)=>spec_VerifyChainA (c:=c) (d:=c1) (d':=c2) (HS.out _ hW) (HP.out _ hW) hW.size hW.size);have aJ:=za (fun (x y z:Sys) (hss:ss=[x,y,z]) (h:(vcT ss p).code≠3)=>show (vcT ss p).code=2∨(vcT [y,z,x] p).code=2∨((vcT ss p).code=(vcT [y,z,x] p).code∧(vcT ss p).tr=(vcT [y,z,x] p).tr) by subst hss;exact chain_turned h);have aK:=za (fun (h:(vcT ss p).code≠3)=>chain_three h);have Q:=za (fun W (hW:Ext D W)=>hW.size);generalize vcT ss p=v at *;clear S hp Hh HT;generalize U0:D.alloc _=w2 at *;obtain⟨b,b1⟩:=Ext.x1_ U0;clear U0;generalize D.heap.size=G at *;have cP:=b1.cells;have h2:=dB w2;go_upto_region 5 with (first
  |(go_at_call 31;refine (HI.out _ b).mono ?_;rintro e w3 ⟨B,m,d,B',m',d',C,q,e1,C',q',aS,bS,rfl,o1,o2,-,hx3⟩))
 have l:=(dB w3).alloc (.cells #[v.code,v.fst.al,.slice B m d,.slice B' m' d',v.snd.al,.slice C q e1,.slice C' q' aS,v.tr,v.ro] 53);replace b1:=b1.ext (hx3.trans l);have O1:=za (o1.own.reads.ext l);have O2:=za (o2.reads.ext l);replace b:=b.trans (hx3.trans l);clear cP h2 l hx3 o1 o2;generalize U0:w3.alloc _=I at *;have b5:=eJ U0;clear U0;generalize w3.heap.size=G5 at *;have cP:=b1.cells;have cV:=b5.cells;have HF:=za (fun W (hW:Ext I W)=>O1.out.ext hW);have HG:=za (fun W (hW:Ext I W)=>O2.out.ext hW);have h4:=dB I;have bo:=za (show G5<=I.heap.size from Nat.le_of_lt b5.lt);clear O1 O2 b1 b5;refine uR (fun X=>Ext I X) [] (zy.of [0,1,2,3,4,5,6,7,8,9,10]) ?_;refine uQ ?_;have L:Ext I I.drew:=(dB I).drew;have r:Ext I I.drew:=h4.drew;generalize I.drew=wd at *;refine ze fun K hK=>?_;go_simp;refine (HR.out _ (b.trans r)).mono ?_;rintro e wy ⟨X1,x1,y1,X2,x2,y2,X3,x3,y3,X4,x4,y4,rfl,Y,Z,hy⟩;have j:=r.trans hy;have E:=L.trans hy;refine hK.out _ _ E ?_;refine pT ?_;refine ze fun K hK=>?_;go_simp;skip;refine (agChainVerdicts_same (HF.out _ j) Y.reads (HG.out _ j) Z.reads).mono (mQ fun o ad=>?_);have V:=j.trans ad;refine hK.out _ _ (E.trans ad) ?_;refine pT ?_;refine uQ ?_;refine zg ?_;clear r hy j E Y Z L ad;have aQ:=fun W (hW:Ext o W)=>cP W (V.trans hW);have bB:=fun W (hW:Ext o W)=>cV W (V.trans hW)
 by_cases hv3:v.code=3
 case pos =>
  have e3:(v.code==3)=true:=by simpa using hv3
  have bs:=za hv3;clear hv3;go_upto_region 6 with fail
  refine uR (fun X=>Ext o X) [4] (zy.of [0,1,2,3,4,5]) ?_;refine uQ ?_;have L:Ext o o.drew:=(dB o).drew;have r:Ext I o.drew:=V.drew;generalize o.drew=wd at *;refine ze fun K hK=>?_;go_simp;refine (HR.out _ (b.trans r)).mono ?_;rintro e wy ⟨X1,x1,y1,X2,x2,y2,X3,x3,y3,X4,x4,y4,rfl,Y,Z,hy⟩;have j:=r.trans hy;have E:=L.trans hy;refine hK.out _ _ E ?_;refine pT ?_;refine zb fun K hK=>?_;go_simp;refine (agChainVerdicts_same (HF.out _ j) Y.reads (HG.out _ j) Z.reads).mono (mQ fun w7 aB=>?_);have h7:=j.trans aB;refine hK.out _ _ ?_;refine pT ?_;refine uQ ?_;refine zg ?_;clear r hy j E Y Z L aB;have bA:=fun W (hW:Ext w7 W)=>cP W (h7.trans hW);have bC:=fun W (hW:Ext w7 W)=>cV W (h7.trans hW);go_wp2_with fail
  go_ret;exact⟨zu sM,M.trans (b.trans h7)⟩
 case neg =>
  have e3:(v.code==3)=false:=by simpa using hv3
  obtain⟨x,y,z,aD⟩:=aK.out hv3;subst aD;obtain rfl:k=3:=(HS.out D (dB _)).1;obtain⟨Bx,H,cx,q0,Y,Z,aC⟩:=(HS.out D (dB _)).aw (k:=0) (s:=x) rfl;obtain⟨By,ny,cy,r0,r1,r2,aE⟩:=(HS.out D (dB _)).aw (k:=1) (s:=y) rfl;obtain⟨Bz,nz,cz,s0,s1,s2,aF⟩:=(HS.out D (dB _)).aw (k:=2) (s:=z) rfl;have bJ:∀ W,Ext o W->W.cell? g=some (.int .i64 x.al)∧W.cell? ⟨g,1,none⟩=some (.int .i64 x.st)∧W.cell? ⟨g,2,none⟩=some (.slice Bx H cx)∧W.cell? ⟨g,3,none⟩=some (.int .i64 y.al)∧W.cell? ⟨g,4,none⟩=some (.int .i64 y.st)∧W.cell? ⟨g,5,none⟩=some (.slice By ny cy)∧W.cell? ⟨g,6,none⟩=some (.int .i64 z.al)∧W.cell? ⟨g,7,none⟩=some (.int .i64 z.st)∧W.cell? ⟨g,8,none⟩=some (.slice Bz nz cz):=fun W hW=>by
   have a:=b.trans (V.trans hW);exact⟨a.aa (by simpa using q0),a.aa (by simpa using Y),a.aa (by simpa using Z),a.aa (by simpa using r0),a.aa (by simpa using r1),a.aa (by simpa using r2),a.aa (by simpa using s0),a.aa (by simpa using s1),a.aa (by simpa using s2)⟩
  clear q0 Y Z r0 r1 r2 s0 s1 s2;have HX:=za (fun W (hW:Ext D W)=>aC.ext hW);have HY:=za (fun W (hW:Ext D W)=>aE.ext hW);have aO:=za (fun W (hW:Ext D W)=>aF.ext hW);have a8:(3:Int)<=(c:Int):=oM;clear aC aE aF hk;have az:=za (aJ.out x y z rfl hv3);have HL:=za (fun W (hW:Ext o W) W' (hx:Ext (W.alloc (.cells #[y.al,y.st,.slice By ny cy,z.al,z.st,.slice Bz nz cz,x.al,x.st,.slice Bx H cx] 38)) W')=>show Calls Tryz.prog 31 #[.slice (some W.heap.size) 3 3,.agg #[p.al,.slice A n c1,.slice A' n' c2]] W' (RetVcH W' (vcT [y,z,x] p)) from by
   have a:=b.trans (V.trans ((hW.alloc (.cells #[y.al,y.st,.slice By ny cy,z.al,z.st,.slice Bz nz cz,x.al,x.st,.slice Bx H cx] 38)).trans hx));have S:=sl_threeA ((Blk.new W 38 #[y.al,y.st,.slice By ny cy,z.al,z.st,.slice Bz nz cz,x.al,x.st,.slice Bx H cx]).ext hx) (HY.out _ a) (aO.out _ a) (HX.out _ a) (Q.out _ a) (Q.out _ a) (Q.out _ a);exact impl_VerifyChain (c:=3) (d:=c1) (d':=c2) S (HP.out _ a) (au.out _ a) (Nat.le_refl _) (Q.out _ a))
  obtain⟨u,hu⟩:∃ u,Hid (vcT [y,z,x] p=u):=⟨_,za rfl⟩;rw [hu.out] at HL az;go_upto_region 7 with fail
  go_cut [6] (fun v6 wx=>∃ (Gu:Nat) (Z1:Option Addr) (z1 y1:Nat) (Z2:Option Addr) (z2 y2:Nat) (Z3:Option Addr) (z3 y3:Nat) (Z4:Option Addr) (z4 y4:Nat),v6=.pointer (some Gu)∧Blk wx Gu 53 #[u.code,u.fst.al,.slice Z1 z1 y1,.slice Z2 z2 y2,u.snd.al,.slice Z3 z3 y3,.slice Z4 z4 y4,u.tr,u.ro]∧Ext o wx)
  case first =>
   have aQ:=fun W (hW:Ext o W)=>cP W (V.trans hW);have aA:=dB o;have bK:=(b.trans V).size;refine uR (fun X=>Ext o X) [11,13] (zy.app [0,1,2,3,4,5,6,7,8,10] (zy.two 9 (zy.two 11 (zy.of [12,13]) 12 (zy.of [11,13])) 12 (zy.of [9,11,13]))) ?_;refine uQ ?_;have T:Ext o o.drew:=aA.drew;have aU:=T.size;generalize o.drew=wd at *;refine zn (fun K hK=>?_) (fun K hK=>?_)
   ·go_simp;have U:=(dB wd).alloc (.cells #[y.al,y.st,.slice By ny cy,z.al,z.st,.slice Bz nz cz,x.al,x.st,.slice Bx H cx] 38);have f:=T.trans U;refine hK.out _ _ f ?_;refine pT ?_;have R:=za (HL.out _ T);generalize wd.alloc _=wl at *;generalize wd.heap.size=gl at *;refine zn (fun K hK=>?_) (fun K hK=>?_)
    ·go_simp;refine (R.out _ (dB _)).mono ?_;rintro e w9 ⟨Z1,z1,y1,Z2,z2,y2,Z3,z3,y3,Z4,z4,y4,aa,rfl,-,-,-,t⟩;have O:=f.trans t;refine hK.out _ _ O ?_;refine pT ?_;refine ze fun K hK=>?_;go_simp;have F:=(dB w9).alloc (.cells #[(0:Int),(0:Int),(),(),(0:Int),(),(),.string ⟨#[]⟩,(0:Int)] 53);have i:=O.trans F;have ay:=O.size;refine hK.out _ _ i ?_;generalize U0:w9.alloc _=wb at *;have bG:=eJ U0;clear U0;generalize w9.heap.size=Gu at *;refine pT ?_;have cG:=bG.cell;have fG:=bG.frozen;refine zb fun K hK=>?_;go_simp;refine hK.out _ _ ?_;refine zg ?_;have hf:=vc_frm wb Gu (.int .i64 u.code) (.int .i64 u.fst.al) (.slice Z1 z1 y1) (.slice Z2 z2 y2) (.int .i64 u.snd.al) (.slice Z3 z3 y3) (.slice Z4 z4 y4) (.string u.tr) (.int .i64 u.ro);have bV:=zij bG rfl (.int .i64 u.code) (.int .i64 u.fst.al) (.slice Z1 z1 y1) (.slice Z2 z2 y2) (.int .i64 u.snd.al) (.slice Z3 z3 y3) (.slice Z4 z4 y4) (.string u.tr) (.int .i64 u.ro);have Hf:=za (And.intro bV (i.frm hf (fun k hk e=>by have e':k=Gu:=e;omega)));clear hf bV i cG fG bG;go_wp2_with fail
     go_meet;exact⟨Gu,Z1,z1,y1,Z2,z2,y2,Z3,z3,y3,Z4,z4,y4,rfl,Hf.out⟩
    ·go_simp;have F:=(dB wl).alloc (.cells #[(0:Int),(0:Int),(),(),(0:Int),(),(),.string ⟨#[]⟩,(0:Int)] 53);have i:=f.trans F;have ay:=f.size;refine hK.out _ _ i ?_;generalize U0:wl.alloc _=wb at *;have bG:=eJ U0;clear U0;generalize wl.heap.size=Gu at *;refine pT ?_;refine zb fun K hK=>?_;go_simp;refine (R.out _ F).mono ?_;rintro e w9 ⟨Z1,z1,y1,Z2,z2,y2,Z3,z3,y3,Z4,z4,y4,aa,rfl,-,-,-,t⟩;have hx3:=i.trans t;replace bG:=bG.ext t;exact yZLawVTurneda1
   ·go_simp;have F:=(dB wd).alloc (.cells #[(0:Int),(0:Int),(),(),(0:Int),(),(),.string ⟨#[]⟩,(0:Int)] 53);have i:=T.trans F;refine hK.out _ _ i ?_;generalize U0:wd.alloc _=wb at *;have bG:=eJ U0;clear U0;generalize wd.heap.size=Gu at *;refine pT ?_;refine ze fun K hK=>?_;go_simp;have U:=(dB wb).alloc (.cells #[y.al,y.st,.slice By ny cy,z.al,z.st,.slice Bz nz cz,x.al,x.st,.slice Bx H cx] 38);have f:=i.trans U;have R:=za (HL.out _ i);refine hK.out _ _ f ?_;generalize wb.alloc _=wl at *;generalize wb.heap.size=gl at *;refine pT ?_;refine zb fun K hK=>?_;go_simp;refine (R.out _ (dB _)).mono ?_;rintro e w9 ⟨Z1,z1,y1,Z2,z2,y2,Z3,z3,y3,Z4,z4,y4,aa,rfl,-,-,-,t⟩;have hx3:=f.trans t;have ay:=aU;replace bG:=(bG.ext U).ext t;exact yZLawVTurneda1
  case rest =>
  obtain⟨Gu,Z1,z1,y1,Z2,z2,y2,Z3,z3,y3,Z4,z4,y4,rfl,bu,aW⟩:=hcut;obtain⟨wE,aV⟩:∃ wE,wE=wc:=⟨_,rfl⟩;subst aV;have hE:=V.trans aW;have ku:=bu.cell;have kv:=cV wE hE;have b3:=hE;clear bu
  by_cases h2:v.code=2
  ·have e2:(v.code==2)=true:=by simpa using h2
   go_wp2_with fail
   go_ret;exact⟨zu sM,M.trans (b.trans hE)⟩
  ·by_cases h3:u.code=2
   ·have e2:(v.code==2)=false:=by simpa using h2
    have e4:(u.code==2)=true:=by simpa using h3
    go_wp2_with fail
    go_ret;exact⟨zu sM,M.trans (b.trans hE)⟩
   ·have e2:(v.code==2)=false:=by simpa using h2
    have e4:(u.code==2)=false:=by simpa using h3
    obtain⟨k1,k2⟩:=(az.out.resolve_left h2).resolve_left h3;rw [← k1,← k2] at ku;have e5:(v.code==v.code)=true:=sM;go_wp2_with fail
    go_ret;exact⟨zu sM,M.trans (b.trans hE)⟩
end Go.Proofs.YtcfchopfijalpaaGreatDoor
