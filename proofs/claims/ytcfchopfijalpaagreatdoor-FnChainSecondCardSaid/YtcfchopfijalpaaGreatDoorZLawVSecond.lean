/- The law FnCh -/
import Derived.Test.YtcfchopfijalpaaGreatDoorA18
set_option maxHeartbeats 4000000
set_option maxRecDepth 100000
namespace Go.Proofs.YtcfchopfijalpaaGreatDoor
open Go Go.RowKit
open Ext renaming refl->dB
theorem yZLawVSeconda1 {P:Prop}(h:P:=by
 simpa using (((((bG.ab 0 (.int .i64 u.code)).ab 1 (.int .i64 u.asm.al)).ab 2 (.slice Z1 z1 y1)).ab 3 (.slice Z2 z2 y2)).ab 4 (.string u.tr)).ab 5 (.int .i64 u.ro)
 ):P:=h
theorem law_ChainSecond {A0:Option Addr} {n0 c0:Nat} {w:World}(h:Bytes w A0 n0)(hn:n0<=9223372036854775807)(hc:n0<=c0)(hc2:c0<=9223372036854775807)(hT:Tab w) :
  Calls Tryz.prog 6 #[.slice A0 n0 c0] w fun e w'=>e=.returned (.bool true)∧Ext w w':=by
 have Hh:=za h;have HT:=za (fun W (hW:Ext w W)=>hT.ext hW);clear h hT
 by_cases hbig:1048576<n0
 ·have J:(1048576:Int)<(n0:Int):=oM
  go_enter Tryz.func6,Tryz.ntmps6
  go_wp2;go_ret;exact⟨rfl,dB _⟩
 have J:(n0:Int)<=1048576:=oM;clear hbig
 go_enter Tryz.func6,Tryz.ntmps6
 go_upto_region 4 with (first
  |(go_at_call 37;refine (spec_DrawVerifyChain Hh.out hn hc hc2).mono ?_;rintro e D ⟨ss,k,g,c,p,A,n,c1,A',n',c2,hk,bI,bJ,rfl,ak,hp,-,aa⟩))
 clear J hn hc hc2;have HS:=za (fun W (hW:Ext D W)=>ak.ext hW);have HP:=za (fun W (hW:Ext D W)=>hp.ext hW);have af:=za (fun W (hW:Ext D W)=>HT.out W (aa.trans hW));have HI:=za (fun W (hW:Ext D W)=>impl_VerifyChain (c:=c) (d:=c1) (d':=c2) (HS.out _ hW) (HP.out _ hW) (af.out _ hW) hW.size hW.size);have HR:=za (fun W (hW:Ext D W)=>spec_VerifyChainA (c:=c) (d:=c1) (d':=c2) (HS.out _ hW) (HP.out _ hW) hW.size hW.size);have ay:=za (fun (h:(vcT ss p).code=0)=>chain_second h);have bn:=za (fun W (hW:Ext D W)=>hW.size);generalize vcT ss p=v at *;clear ak hp Hh HT;generalize U0:D.alloc _=w2 at *;obtain⟨a,b1⟩:=Ext.x1_ U0;clear U0;generalize D.heap.size=G at *;have cP:=b1.cells;have h2:=dB w2;go_upto_region 5 with (first
  |(go_at_call 31;refine (HI.out _ a).mono ?_;rintro e w3 ⟨B,m,d,B',m',d',C,q,e1,C',q',aj,bO,rfl,o1,o2,-,F⟩))
 have r:=(dB w3).alloc (.cells #[v.code,v.fst.al,.slice B m d,.slice B' m' d',v.snd.al,.slice C q e1,.slice C' q' aj,v.tr,v.ro] 53);replace b1:=b1.ext (F.trans r);have O1:=za (o1.own.reads.ext r);have O2:=za (o2.reads.ext r);replace a:=a.trans (F.trans r);clear cP h2 r F o1 o2;generalize U0:w3.alloc _=I at *;have b5:=Ext.bl_ U0;clear U0;generalize w3.heap.size=G5 at *;have cP:=b1.cells;have cV:=b5.cells;have HF:=za (fun W (hW:Ext I W)=>O1.out.ext hW);have HG:=za (fun W (hW:Ext I W)=>O2.out.ext hW);have h4:=dB I;have bm:=za (show G5<=I.heap.size from Nat.le_of_lt b5.lt);clear O1 O2 b1 b5;refine uR (fun X=>Ext I X) [] (zy.of [0,1,2,3,4,5,6,7,8,9,10]) ?_;refine uQ ?_;have M:Ext I I.drew:=(dB I).drew;have t:Ext I I.drew:=h4.drew;generalize I.drew=wd at *;refine ze fun K hK=>?_;go_simp;refine (HR.out _ (a.trans t)).mono ?_;rintro e wy ⟨X1,x1,y1,X2,x2,y2,X3,x3,y3,X4,x4,y4,rfl,S,T,hy⟩;have i:=t.trans hy;have E:=M.trans hy;refine hK.out _ _ E ?_;refine pT ?_;refine ze fun K hK=>?_;go_simp;skip;refine (agChainVerdicts_same (HF.out _ i) S.reads (HG.out _ i) T.reads).mono (mQ fun l ab=>?_);have R:=i.trans ab;refine hK.out _ _ (E.trans ab) ?_;refine pT ?_;refine uQ ?_;refine zg ?_;clear t hy i E S T M ab;have bw:=fun W (hW:Ext l W)=>cP W (R.trans hW);have aG:=fun W (hW:Ext l W)=>cV W (R.trans hW)
 by_cases hv0:v.code=0
 case neg =>
  have n0:(v.code != 0)=true:=by simpa using hv0
  go_upto_region 6 with fail
  refine uR (fun X=>Ext l X) [4] (zy.of [0,1,2,3,4,5]) ?_;refine uQ ?_;have M:Ext l l.drew:=(dB l).drew;have t:Ext I l.drew:=R.drew;generalize l.drew=wd at *;refine ze fun K hK=>?_;go_simp;refine (HR.out _ (a.trans t)).mono ?_;rintro e wy ⟨X1,x1,y1,X2,x2,y2,X3,x3,y3,X4,x4,y4,rfl,S,T,hy⟩;have i:=t.trans hy;have E:=M.trans hy;refine hK.out _ _ E ?_;refine pT ?_;refine zb fun K hK=>?_;go_simp;refine (agChainVerdicts_same (HF.out _ i) S.reads (HG.out _ i) T.reads).mono (mQ fun U j=>?_);have h7:=i.trans j;refine hK.out _ _ ?_;refine pT ?_;refine uQ ?_;refine zg ?_;clear t hy i E S T M j;have bx:=fun W (hW:Ext U W)=>cP W (h7.trans hW);have bz:=fun W (hW:Ext U W)=>cV W (h7.trans hW);go_wp2_with fail
  go_ret;exact⟨zu sM,aa.trans (a.trans h7)⟩
 case pos =>
  have n0:(v.code != 0)=false:=by simpa using hv0
  have aD:=za hv0;clear hv0;obtain⟨x,y,z,ao,Y,Z⟩:=ay.out aD.out;subst ao;obtain rfl:k=3:=(HS.out D (dB _)).1;obtain⟨Bx,aP,cx,q0,S,T,an⟩:=(HS.out D (dB _)).aw (k:=0) (s:=x) rfl;obtain⟨By,ny,cy,r0,r1,r2,ap⟩:=(HS.out D (dB _)).aw (k:=1) (s:=y) rfl;obtain⟨Bz,nz,cz,s0,s1,s2,aq⟩:=(HS.out D (dB _)).aw (k:=2) (s:=z) rfl;have bH:∀ W,Ext l W->W.cell? g=some (.int .i64 x.al)∧W.cell? ⟨g,1,none⟩=some (.int .i64 x.st)∧W.cell? ⟨g,2,none⟩=some (.slice Bx aP cx)∧W.cell? ⟨g,3,none⟩=some (.int .i64 y.al)∧W.cell? ⟨g,4,none⟩=some (.int .i64 y.st)∧W.cell? ⟨g,5,none⟩=some (.slice By ny cy)∧W.cell? ⟨g,6,none⟩=some (.int .i64 z.al)∧W.cell? ⟨g,7,none⟩=some (.int .i64 z.st)∧W.cell? ⟨g,8,none⟩=some (.slice Bz nz cz):=fun W hW=>by
   have f:=a.trans (R.trans hW);exact⟨f.aa (by simpa using q0),f.aa (by simpa using S),f.aa (by simpa using T),f.aa (by simpa using r0),f.aa (by simpa using r1),f.aa (by simpa using r2),f.aa (by simpa using s0),f.aa (by simpa using s1),f.aa (by simpa using s2)⟩
  clear q0 S T r0 r1 r2 s0 s1 s2;have HX:=za (fun W (hW:Ext D W)=>an.ext hW);have HY:=za (fun W (hW:Ext D W)=>ap.ext hW);have aB:=za (fun W (hW:Ext D W)=>aq.ext hW);have a3:(3:Int)<=(c:Int):=oM;clear an ap aq hk;have HV:=za (fun W (hW:Ext I W)=>zhH (c:=cy) (d:=d) (d':=d') (c2:=cz) (HY.out _ (a.trans hW)) (HF.out _ hW) (aB.out _ (a.trans hW)) (af.out _ (a.trans hW)));obtain⟨u,hu⟩:∃ u,Hid (vpT y z v.fst=u):=⟨_,za rfl⟩;rw [hu.out] at HV Y Z;have bC:(u.code==0)=true:=by simpa using Y
  have ag:=za Z;clear Y Z;go_upto_region 7 with fail
  go_cut [6] (fun v6 wx=>∃ (b:Nat) (Z1:Option Addr) (z1 y1:Nat) (Z2:Option Addr) (z2 y2:Nat),v6=.pointer (some b)∧Blk wx b 67 #[u.code,u.asm.al,.slice Z1 z1 y1,.slice Z2 z2 y2,u.tr,u.ro]∧zN wx l.heap.size Z1 z1 y1 Z2 z2 y2 u.asm∧Ext l wx)
  case first =>
   have aG:=fun W (hW:Ext l W)=>cV W (R.trans hW);have am:=dB l;refine uR (fun X=>Ext l X) [9,11] (zy.app [0,1,2,3,4,5,6,7,8] (zy.two 9 (zy.of [10,11]) 10 (zy.of [9,11]))) ?_;refine uQ ?_;have H:Ext l l.drew:=am.drew;have aL:=H.size;generalize l.drew=wd at *;refine zn (fun K hK=>?_) (fun K hK=>?_)
   ·go_simp;refine (HV.out _ (R.trans H)).mono ?_;rintro e U ⟨Z1,z1,y1,Z2,z2,y2,rfl,O,j⟩;refine hK.out _ _ (H.trans j) ?_;refine pT ?_;refine ze fun K hK=>?_;go_simp;have Q:=(dB U).alloc (.cells #[(0:Int),(0:Int),(),(),.string ⟨#[]⟩,(0:Int)] 67);have o:=(H.trans j).trans Q;have hG:l.heap.size<=U.heap.size:=(H.trans j).size;have L:=(O.ext Q).less aL;refine hK.out _ _ o ?_;generalize U0:U.alloc _=w8 at *;have bG:=Ext.bl_ U0;clear U0;generalize U.heap.size=b at *;refine pT ?_;have cG:=bG.cell;have fG:=bG.frozen;refine zb fun K hK=>?_;go_simp;refine hK.out _ _ ?_;refine zg ?_;have V:=zdP w8 b (.int .i64 u.code) (.int .i64 u.asm.al) (.slice Z1 z1 y1) (.slice Z2 z2 y2) (.string u.tr) (.int .i64 u.ro);have bV:Blk ((((((w8.setCell b u.code).setCell ⟨b,1,none⟩ u.asm.al).setCell ⟨b,2,none⟩ (.slice Z1 z1 y1)).setCell ⟨b,3,none⟩ (.slice Z2 z2 y2)).setCell ⟨b,4,none⟩ u.tr).setCell ⟨b,5,none⟩ u.ro) b 67 #[.int .i64 u.code,.int .i64 u.asm.al,.slice Z1 z1 y1,.slice Z2 z2 y2,.string u.tr,.int .i64 u.ro]:=by
     exact yZLawVSeconda1
    have Hf:=za (And.intro bV (And.intro (L.ar bG V dM) (o.frm V (fun k hk e=>by have e':k=b:=e;omega))));clear V bV L O o cG fG bG;go_wp2_with fail
    go_meet;exact⟨b,Z1,z1,y1,Z2,z2,y2,rfl,Hf.out⟩
   ·go_simp;have Q:=(dB wd).alloc (.cells #[(0:Int),(0:Int),(),(),.string ⟨#[]⟩,(0:Int)] 67);have o:=H.trans Q;refine hK.out _ _ o ?_;generalize U0:wd.alloc _=U at *;have bG:=Ext.bl_ U0;clear U0;generalize wd.heap.size=b at *;refine pT ?_;refine zb fun K hK=>?_;go_simp;refine (HV.out _ (R.trans o)).mono ?_;rintro e w8 ⟨Z1,z1,y1,Z2,z2,y2,rfl,O,j⟩;have F:=o.trans j;have L:=O.less o.size;replace bG:=bG.ext j;refine hK.out _ _ ?_;refine pT ?_;have cG:=bG.cell;have fG:=bG.frozen;refine zb fun K hK=>?_;go_simp;refine hK.out _ _ ?_;refine zg ?_;have V:=zdP w8 b (.int .i64 u.code) (.int .i64 u.asm.al) (.slice Z1 z1 y1) (.slice Z2 z2 y2) (.string u.tr) (.int .i64 u.ro);have bV:Blk ((((((w8.setCell b u.code).setCell ⟨b,1,none⟩ u.asm.al).setCell ⟨b,2,none⟩ (.slice Z1 z1 y1)).setCell ⟨b,3,none⟩ (.slice Z2 z2 y2)).setCell ⟨b,4,none⟩ u.tr).setCell ⟨b,5,none⟩ u.ro) b 67 #[.int .i64 u.code,.int .i64 u.asm.al,.slice Z1 z1 y1,.slice Z2 z2 y2,.string u.tr,.int .i64 u.ro]:=by
     exact yZLawVSeconda1
    have Hf:=za (And.intro bV (And.intro (L.ar bG V dM) (F.frm V (fun k hk e=>by have e':k=b:=e;omega))));clear V bV L O F cG fG bG;go_wp2_with fail
    go_meet;exact⟨b,Z1,z1,y1,Z2,z2,y2,rfl,Hf.out⟩
  case rest =>
  obtain⟨b,Z1,z1,y1,Z2,z2,y2,rfl,bu,O,aO⟩:=hcut;obtain⟨wE,aN⟩:∃ wE,wE=wc:=⟨_,rfl⟩;subst aN;have hE:=R.trans aO;have ku:=bu.cell;have kv:=cV wE hE;rw [ag.out] at O;have HA:=za (zdj (c:=y1) (c':=y2) (d:=e1) (d':=aj) O.reads (HG.out _ hE));rw [show u.asm.al=v.snd.al by rw [ag.out]] at ku;clear bu O;go_wp2_with (first
   |(go_at_call 40;refine HA.out.mono (mQ fun wz hz=>?_);have h9:=hE.trans hz))
  go_ret;exact⟨zu sM,aa.trans (a.trans h9)⟩
end Go.Proofs.YtcfchopfijalpaaGreatDoor
