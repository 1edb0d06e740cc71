/- The law FnCh -/
import Derived.Test.YtcfchopfijalpaaGreatDoorA18
set_option maxHeartbeats 4000000
set_option maxRecDepth 100000
namespace Go.Proofs.YtcfchopfijalpaaGreatDoor
open Go Go.RowKit
open Ext renaming refl->dB
theorem law_ChainRounds {A0:Option Addr} {n0 c0:Nat} {w:World}(h:Bytes w A0 n0)(hn:n0<=9223372036854775807)(hc:n0<=c0)(hc2:c0<=9223372036854775807)(hT:Tab w) :
  Calls Tryz.prog 5 #[.slice A0 n0 c0] w fun e w'=>e=.returned (.bool true)∧Ext w w':=by
 have Hh:=za h;have HT:=za (fun W (hW:Ext w W)=>hT.ext hW);clear h hT
 by_cases hbig:1048576<n0
 ·have o:(1048576:Int)<(n0:Int):=oM
  go_enter Tryz.func5,Tryz.ntmps5
  go_wp2;go_ret;exact⟨rfl,dB _⟩
 have o:(n0:Int)<=1048576:=oM;clear hbig
 go_enter Tryz.func5,Tryz.ntmps5
 go_upto_region 4 with (first
  |(go_at_call 37;refine (spec_DrawVerifyChain Hh.out hn hc hc2).mono ?_;rintro e t ⟨M,k,g,c,p,A,n,c1,A',n',c2,hk,aQ,aR,rfl,I,hp,-,s⟩))
 clear o hn hc hc2;have HS:=za (fun W (hW:Ext t W)=>I.ext hW);have HP:=za (fun W (hW:Ext t W)=>hp.ext hW);have S:=za (fun W (hW:Ext t W)=>HT.out W (s.trans hW));have HI:=za (fun W (hW:Ext t W)=>impl_VerifyChain (c:=c) (d:=c1) (d':=c2) (HS.out _ hW) (HP.out _ hW) (S.out _ hW) hW.size hW.size);have HR:=za (fun W (hW:Ext t W)=>spec_VerifyChainA (c:=c) (d:=c1) (d':=c2) (HS.out _ hW) (HP.out _ hW) hW.size hW.size);have R:=za (fun (h:(vcT M p).code≠3)=>chain_rounds h);have HZ:=za (fun (h:(vcT M p).code=3)=>show (vcT M p).ro=0 by rw [vcT_three h]);have HB:=za (vcT_asmB M p).1;have aB:=za (fun W (hW:Ext t W)=>hW.size);generalize vcT M p=v at *;clear I hp Hh HT;generalize U0:t.alloc _=w2 at *;obtain⟨a,F⟩:=Ext.x1_ U0;clear U0;generalize t.heap.size=G at *;have O:=F.cells;have h2:=dB w2;go_upto_region 5 with (first
  |(go_at_call 31;refine (HI.out _ a).mono ?_;rintro e Z ⟨B,m,d,B',m',d',C,q,e1,C',q',U,aT,rfl,o1,o2,-,x⟩))
 have f:=(dB Z).alloc (.cells #[v.code,v.fst.al,.slice B m d,.slice B' m' d',v.snd.al,.slice C q e1,.slice C' q' U,v.tr,v.ro] 53);replace F:=F.ext (x.trans f);have O1:=za (o1.own.reads.ext f);have O2:=za (o2.reads.ext f);replace a:=a.trans (x.trans f);clear O h2 f x o1 o2;generalize U0:Z.alloc _=l at *;have T:=Ext.bl_ U0;clear U0;generalize Z.heap.size=G5 at *;have O:=F.cells;have cV:=T.cells;have Q:=za (fun W (hW:Ext l W)=>O1.out.ext hW);have HG:=za (fun W (hW:Ext l W)=>O2.out.ext hW);have h4:=dB l;have aA:=za (show G5<=l.heap.size from Nat.le_of_lt T.lt);clear O1 O2 F T;refine uR (fun X=>Ext l X) [] (zy.of [0,1,2,3,4,5,6,7,8,9,10]) ?_;refine uQ ?_;have r:Ext l l.drew:=(dB l).drew;have j:Ext l l.drew:=h4.drew;generalize l.drew=wd at *;refine ze fun K hK=>?_;go_simp;refine (HR.out _ (a.trans j)).mono ?_;rintro e wy ⟨X1,x1,y1,X2,x2,y2,X3,x3,y3,X4,x4,y4,rfl,J,L,D⟩;have b:=j.trans D;have i:=r.trans D;refine hK.out _ _ i ?_;refine pT ?_;refine ze fun K hK=>?_;go_simp;skip;refine (agChainVerdicts_same (Q.out _ b) J.reads (HG.out _ b) L.reads).mono (mQ fun u y=>?_);have H:=b.trans y;refine hK.out _ _ (i.trans y) ?_;refine pT ?_;refine uQ ?_;refine zg ?_;clear j D b i J L r y;have aI:=fun W (hW:Ext u W)=>O W (H.trans hW);have aK:=fun W (hW:Ext u W)=>cV W (H.trans hW)
 by_cases hv3:v.code=3
 case pos =>
  have e3:(v.code==3)=true:=by simpa using hv3
  have E:=za hv3;clear hv3;have n3:(v.code != 3)=false:=by simpa using E.out
  have z0:((v.ro:Int)==0)=true:=by rw [HZ.out E.out];rfl
  go_upto_region 6 with fail
  refine uR (fun X=>Ext u X) [] (zy.of [0,1,2,3,4,5,6,7,8,9,10,11,12,13,14,15]) ?_;refine uQ ?_;have r:Ext u u.drew:=(dB u).drew;have j:Ext l u.drew:=H.drew;generalize u.drew=wd at *;refine ze fun K hK=>?_;go_simp;refine (HR.out _ (a.trans j)).mono ?_;rintro e wy ⟨X1,x1,y1,X2,x2,y2,X3,x3,y3,X4,x4,y4,rfl,J,L,D⟩;have b:=j.trans D;have i:=r.trans D;refine hK.out _ _ i ?_;refine pT ?_;refine ze fun K hK=>?_;go_simp;skip;refine (agChainVerdicts_same (Q.out _ b) J.reads (HG.out _ b) L.reads).mono (mQ fun w7 z=>?_);have V:=b.trans z;refine hK.out _ _ (i.trans z) ?_;refine pT ?_;refine uQ ?_;refine zg ?_;clear j D b i J L r z;have aJ:=fun W (hW:Ext w7 W)=>O W (V.trans hW);have aL:=fun W (hW:Ext w7 W)=>cV W (V.trans hW);go_wp2_with fail
  go_ret;exact⟨zu sM,s.trans (a.trans V)⟩
 case neg =>
  have e3:(v.code==3)=false:=by simpa using hv3
  obtain⟨r1,r2,Y⟩:=R.out hv3;have g1:(1:Int)<=(v.ro:Int):=oM;have g2:(v.ro:Int)<=12:=oM;have hm:m=v.fst.next.length:=by
   have:=(Q.out _ h4).1.1;omega
  by_cases hv0:v.code=0
  ·have n0:(v.code != 0)=false:=by simpa using hv0
   have g3:(v.ro:Int)<=(m:Int):=by have:=Y hv0;omega
   clear r1 r2 Y hm;go_wp2_with fail
   go_ret;exact⟨zu sM,s.trans (a.trans H)⟩
  ·have n0:(v.code != 0)=true:=by simpa using hv0
   clear r1 r2 Y hm;go_wp2_with fail
   go_ret;exact⟨zu sM,s.trans (a.trans H)⟩
end Go.Proofs.YtcfchopfijalpaaGreatDoor
