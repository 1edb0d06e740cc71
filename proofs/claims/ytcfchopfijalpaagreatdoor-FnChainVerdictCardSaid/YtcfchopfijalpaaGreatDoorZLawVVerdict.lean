/- The law FnCh -/
import Derived.Test.YtcfchopfijalpaaGreatDoorA18
set_option maxHeartbeats 4000000
set_option maxRecDepth 100000
namespace Go.Proofs.YtcfchopfijalpaaGreatDoor
open Go Go.RowKit
open Ext renaming refl->dB
theorem law_ChainVerdict {A0:Option Addr} {n0 c0:Nat} {w:World}(h:Bytes w A0 n0)(hn:n0<=9223372036854775807)(hc:n0<=c0)(hc2:c0<=9223372036854775807)(hT:Tab w) :
  Calls Tryz.prog 8 #[.slice A0 n0 c0] w fun e w'=>e=.returned (.bool true)∧Ext w w':=by
 have Hh:=za h;have HT:=za (fun W (hW:Ext w W)=>hT.ext hW);clear h hT
 by_cases hbig:1048576<n0
 ·have s:(1048576:Int)<(n0:Int):=oM
  go_enter Tryz.func8,Tryz.ntmps8
  go_wp2;go_ret;exact⟨rfl,dB _⟩
 have s:(n0:Int)<=1048576:=oM;clear hbig
 go_enter Tryz.func8,Tryz.ntmps8
 go_upto_region 4 with (first
  |(go_at_call 37;refine (spec_DrawVerifyChain Hh.out hn hc hc2).mono ?_;rintro e x ⟨ss,k,g,c,p,A,n,T,A',n',U,hk,aQ,aR,rfl,H,hp,-,u⟩))
 clear s hn hc hc2;have R:=za (fun W (hW:Ext x W)=>H.ext hW);have Q:=za (fun W (hW:Ext x W)=>hp.ext hW);have D:=za (fun W (hW:Ext x W)=>HT.out W (u.trans hW));have HI:=za (fun W (hW:Ext x W)=>impl_VerifyChain (c:=c) (d:=T) (d':=U) (R.out _ hW) (Q.out _ hW) (D.out _ hW) hW.size hW.size);have HR:=za (fun W (hW:Ext x W)=>spec_VerifyChainA (c:=c) (d:=T) (d':=U) (R.out _ hW) (Q.out _ hW) hW.size hW.size);have O:=za (fun (h:(vcT ss p).code≠3) (Y:(vcT ss p).code≠2)=>chain_verdict h Y);have HL:=za (fun W (hW:Ext x W)=>impl_PartsKeep (c:=c) (d2:=T) (d2':=U) (R.out _ hW) (Q.out _ hW) (D.out _ hW));have aA:=za (fun W (hW:Ext x W)=>hW.size);generalize vcT ss p=v at *;clear H hp Hh HT;generalize U0:x.alloc _=w2 at *;obtain⟨a,E⟩:=Ext.x1_ U0;clear U0;generalize x.heap.size=G at *;have M:=E.cells;have Y:=dB w2;go_upto_region 5 with (first
  |(go_at_call 31;refine (HI.out _ a).mono ?_;rintro e w3 ⟨B,m,d,B',m',d',C,q,e1,C',q',V,aT,rfl,o1,o2,-,y⟩))
 have l:=(dB w3).alloc (.cells #[v.code,v.fst.al,.slice B m d,.slice B' m' d',v.snd.al,.slice C q e1,.slice C' q' V,v.tr,v.ro] 53);replace E:=E.ext (y.trans l);have O1:=za (o1.own.reads.ext l);have O2:=za (o2.reads.ext l);replace a:=a.trans (y.trans l);clear M Y l y o1 o2;generalize U0:w3.alloc _=o at *;have S:=Ext.bl_ U0;clear U0;generalize w3.heap.size=G5 at *;have M:=E.cells;have cV:=S.cells;have HF:=za (fun W (hW:Ext o W)=>O1.out.ext hW);have HG:=za (fun W (hW:Ext o W)=>O2.out.ext hW);have h4:=dB o;have az:=za (show G5<=o.heap.size from Nat.le_of_lt S.lt);clear O1 O2 E S;refine uR (fun X=>Ext o X) [] (zy.of [0,1,2,3,4,5,6,7,8,9,10]) ?_;refine uQ ?_;have j:Ext o o.drew:=(dB o).drew;have b:Ext o o.drew:=h4.drew;generalize o.drew=wd at *;refine ze fun K hK=>?_;go_simp;refine (HR.out _ (a.trans b)).mono ?_;rintro e wy ⟨X1,x1,y1,X2,x2,y2,X3,x3,y3,X4,x4,y4,rfl,J,L,t⟩;have f:=b.trans t;have r:=j.trans t;refine hK.out _ _ r ?_;refine pT ?_;refine ze fun K hK=>?_;go_simp;skip;refine (agChainVerdicts_same (HF.out _ f) J.reads (HG.out _ f) L.reads).mono (mQ fun i z=>?_);have F:=f.trans z;refine hK.out _ _ (r.trans z) ?_;refine pT ?_;refine uQ ?_;refine zg ?_;clear b t f r J L j z;have aH:=fun W (hW:Ext i W)=>M W (F.trans hW);have aJ:=fun W (hW:Ext i W)=>cV W (F.trans hW)
 by_cases hv3:v.code=3
 case pos =>
  have e3:(v.code==3)=true:=by simpa using hv3
  have aC:=za hv3;clear hv3;go_upto_region 6 with fail
  refine uR (fun X=>Ext i X) [4] (zy.of [0,1,2,3,4,5]) ?_;refine uQ ?_;have j:Ext i i.drew:=(dB i).drew;have b:Ext o i.drew:=F.drew;generalize i.drew=wd at *;refine ze fun K hK=>?_;go_simp;refine (HR.out _ (a.trans b)).mono ?_;rintro e wy ⟨X1,x1,y1,X2,x2,y2,X3,x3,y3,X4,x4,y4,rfl,J,L,t⟩;have f:=b.trans t;have r:=j.trans t;refine hK.out _ _ r ?_;refine pT ?_;refine zb fun K hK=>?_;go_simp;refine (agChainVerdicts_same (HF.out _ f) J.reads (HG.out _ f) L.reads).mono (mQ fun w7 I=>?_);have Z:=f.trans I;refine hK.out _ _ ?_;refine pT ?_;refine uQ ?_;refine zg ?_;clear b t f r J L j I;have aI:=fun W (hW:Ext w7 W)=>M W (Z.trans hW);have aK:=fun W (hW:Ext w7 W)=>cV W (Z.trans hW);go_wp2_with fail
  go_ret;exact⟨zu sM,u.trans (a.trans Z)⟩
 case neg =>
  have e3:(v.code==3)=false:=by simpa using hv3
  go_upto_region 7 with fail
  by_cases hv2:v.code=2
  ·have e2:(v.code==2)=true:=by simpa using hv2
   have j:Ext i i.drew:=(dB i).drew;refine uR (fun X=>Ext i X) [] (zy.of [0,1,2,3,4,5,7,8,9,6,10,11,12]) ?_;have b:Ext o i.drew:=F.drew;refine uQ ?_;refine zg ?_;go_wp2_with fail
   go_ret;exact⟨zu sM,u.trans (a.trans b)⟩
  ·have e2:(v.code==2)=false:=by simpa using hv2
   rw [O.out hv3 hv2] at HL;have ao:=dB i;refine uR (fun X=>Ext i X) [] (zy.of [0,1,2,3,4,5,7,8,9,6,10,11,12]) ?_;refine uQ ?_;have j:Ext i i.drew:=(dB i).drew;have b:Ext o i.drew:=F.drew;generalize i.drew=wd at *;refine ze fun K hK=>?_;go_simp;refine (HL.out _ (a.trans b)).mono (mQ fun wy t=>?_);have f:=b.trans t;refine hK.out _ _ (j.trans t) ?_;refine pT ?_;refine uQ ?_;refine zg ?_;go_wp2_with fail
   go_ret;exact⟨zu (by by_cases h0:v.code=0<;>simp [h0]),u.trans (a.trans f)⟩
end Go.Proofs.YtcfchopfijalpaaGreatDoor
