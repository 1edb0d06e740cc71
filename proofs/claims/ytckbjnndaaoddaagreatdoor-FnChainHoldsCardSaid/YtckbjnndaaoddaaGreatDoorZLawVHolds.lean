/- The law FnCh -/
import Derived.Test.YtckbjnndaaoddaaGreatDoorH17
set_option maxHeartbeats 4000000
set_option maxRecDepth 100000
namespace Go.Proofs.YtckbjnndaaoddaaGreatDoor
open Go Go.RowKit
open Ext renaming refl->dB
theorem law_ChainHolds {A0:Option Addr} {n0 c0:Nat} {w:World}(h:Bytes w A0 n0)(hn:n0<=9223372036854775807)(hc:n0<=c0)(hc2:c0<=9223372036854775807)(hT:Tab w) :
  Calls Tryz.prog 8 #[.slice A0 n0 c0] w fun e w'=>e=.returned (.bool true)∧Ext w w':=by
 have Hh:=za h;have HT:=za (fun W (hW:Ext w W)=>hT.ext hW);clear h hT
 by_cases hbig:1048576<n0
 ·have i:(1048576:Int)<(n0:Int):=oM
  go_enter Tryz.func8,Tryz.ntmps8
  go_wp2;go_ret;exact⟨rfl,dB _⟩
 have i:(n0:Int)<=1048576:=oM;clear hbig
 go_enter Tryz.func8,Tryz.ntmps8
 go_upto_region 4 with (first
  |(go_at_call 15;refine (spec_DrawVerifyChain Hh.out hn hc hc2).mono ?_;rintro e l ⟨ss,k,g,c,p,A,n,S,A',n',T,hk,aI,aJ,rfl,D,hp,-,r⟩))
 clear i hn hc hc2;have Q:=za (fun W (hW:Ext l W)=>D.ext hW);have O:=za (fun W (hW:Ext l W)=>hp.ext hW);have t:=za (fun W (hW:Ext l W)=>HT.out W (r.trans hW));have HI:=za (fun W (hW:Ext l W)=>impl_VerifyChain (c:=c) (d:=S) (d':=T) (Q.out _ hW) (O.out _ hW) (t.out _ hW) hW.size hW.size);have HR:=za (fun W (hW:Ext l W)=>spec_VerifyChainA (c:=c) (d:=S) (d':=T) (Q.out _ hW) (O.out _ hW) hW.size hW.size);have HZ:=za (fun (h:(vcT ss p).code≠0)=>vcT_noneL h);have L:=za (fun (h:(vcT ss p).code=0)=>chain_fault h);have aA:=za (fun W (hW:Ext l W)=>hW.size);generalize vcT ss p=v at *;clear D hp Hh HT;generalize U0:l.alloc _=w2 at *;obtain⟨a,u⟩:=Ext.x1_ U0;clear U0;generalize l.heap.size=G at *;have U:=u.cells;have h2:=dB w2;go_upto_region 5 with (first
  |(go_at_call 16;refine (HI.out _ a).mono ?_;rintro e w3 ⟨B,m,d,B',m',d',C,q,e1,C',q',x,aN,rfl,o1,o2,-,s⟩))
 have b:=(dB w3).alloc (.cells #[v.code,v.fst.al,.slice B m d,.slice B' m' d',v.snd.al,.slice C q e1,.slice C' q' x,v.tr,v.ro] 33);replace u:=u.ext (s.trans b);have O1:=za (o1.own.reads.ext b);have O2:=za (o2.reads.ext b);replace a:=a.trans (s.trans b);clear U h2 b s o1 o2;generalize U0:w3.alloc _=f at *;have R:=Ext.bl_ U0;clear U0;generalize w3.heap.size=G5 at *;have U:=u.cells;have cV:=R.cells;have J:=za (fun W (hW:Ext f W)=>O1.out.ext hW);have M:=za (fun W (hW:Ext f W)=>O2.out.ext hW);have V:=dB f;have az:=za (show G5<=f.heap.size from Nat.le_of_lt R.lt);clear O1 O2 u R;refine uR (fun X=>Ext f X) [4] (zv.of [0,1,2,3,4,5]) ?_;refine uQ ?_;have E:Ext f f.drew:=(dB f).drew;have o:Ext f f.drew:=V.drew;generalize f.drew=wd at *;refine ze fun K hK=>?_;go_simp;refine (HR.out _ (a.trans o)).mono ?_;rintro e wy ⟨X1,x1,y1,X2,x2,y2,X3,x3,y3,X4,x4,y4,rfl,q1,q2,hy⟩;have j:=o.trans hy;have z:=E.trans hy;refine hK.out _ _ z ?_;refine pT ?_;refine zb fun K hK=>?_;go_simp;refine (agChainVerdicts_same (J.out _ j) q1.reads (M.out _ j) q2.reads).mono (mQ fun w6 F=>?_);have y:=j.trans F;refine hK.out _ _ ?_;refine pT ?_;refine uQ ?_;refine zf ?_;clear o hy j z q1 q2 E F;have aE:=fun W (hW:Ext w6 W)=>U W (y.trans hW);have aF:=fun W (hW:Ext w6 W)=>cV W (y.trans hW);have Y:m=v.fst.next.length:=(J.out _ V).1.1;have hq:q=v.snd.next.length:=(M.out _ V).1.1
 by_cases hv0:v.code=0
 ·have n0:(v.code != 0)=false:=by simpa using hv0
  obtain⟨H,I⟩:=L.out hv0;have HK:=za (fun W (hW:Ext f W)=>impl_ChainFault (c:=c) (d1:=S) (d1':=T) (d2:=d) (d2':=d') (d3:=e1) (d3':=x) (Q.out _ (a.trans hW)) (O.out _ (a.trans hW)) (J.out _ hW) (M.out _ hW) (t.out _ (a.trans hW)));rw [H] at HK;rw [I] at cV;clear H I Y hq;go_wp2_with (first
   |(go_at_call 22;refine (HK.out _ y).mono (mQ fun wz hz=>?_);have h7:=y.trans hz))
  go_ret;exact⟨zm sM,r.trans (a.trans h7)⟩
 ·have n0:(v.code != 0)=true:=by simpa using hv0
  obtain⟨H,I⟩:=HZ.out hv0;have Z:m=0:=by rw [Y,H];rfl
  have ab:q=0:=by rw [hq,I];rfl
  clear Y hq H I;subst Z ab;go_wp2_with fail
  go_ret;exact⟨zm sM,r.trans (a.trans y)⟩
end Go.Proofs.YtckbjnndaaoddaaGreatDoor
