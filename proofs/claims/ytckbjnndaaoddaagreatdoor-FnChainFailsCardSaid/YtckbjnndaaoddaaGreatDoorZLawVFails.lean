/- The law FnCh -/
import Derived.Test.YtckbjnndaaoddaaGreatDoorH17
set_option maxHeartbeats 4000000
set_option maxRecDepth 100000
namespace Go.Proofs.YtckbjnndaaoddaaGreatDoor
open Go Go.RowKit
open Ext renaming refl->dB
theorem law_ChainFails {A0:Option Addr} {n0 c0:Nat} {w:World}(h:Bytes w A0 n0)(hn:n0<=9223372036854775807)(hc:n0<=c0)(hc2:c0<=9223372036854775807)(hT:Tab w) :
  Calls Tryz.prog 9 #[.slice A0 n0 c0] w fun e w'=>e=.returned (.bool true)∧Ext w w':=by
 have Hh:=za h;have HT:=za (fun W (hW:Ext w W)=>hT.ext hW);clear h hT
 by_cases hbig:1048576<n0
 ·have j:(1048576:Int)<(n0:Int):=oM
  go_enter Tryz.func9,Tryz.ntmps9
  go_wp2;go_ret;exact⟨rfl,dB _⟩
 have j:(n0:Int)<=1048576:=oM;clear hbig
 go_enter Tryz.func9,Tryz.ntmps9
 go_upto_region 4 with (first
  |(go_at_call 15;refine (spec_DrawVerifyChain Hh.out hn hc hc2).mono ?_;rintro e i ⟨ss,k,g,c,p,A,n,R,A',n',S,hk,aL,aN,rfl,I,hp,-,x⟩))
 clear j hn hc hc2;have Q:=za (fun W (hW:Ext i W)=>I.ext hW);have O:=za (fun W (hW:Ext i W)=>hp.ext hW);have s:=za (fun W (hW:Ext i W)=>HT.out W (x.trans hW));have HI:=za (fun W (hW:Ext i W)=>impl_VerifyChain (c:=c) (d:=R) (d':=S) (Q.out _ hW) (O.out _ hW) (s.out _ hW) hW.size hW.size);have HR:=za (fun W (hW:Ext i W)=>spec_VerifyChainA (c:=c) (d:=R) (d':=S) (Q.out _ hW) (O.out _ hW) hW.size hW.size);have z:=za (chain_fails (ss:=ss) (p:=p));have HL:=za (fun W (hW:Ext i W)=>zbg (c:=c) (d2:=R) (d2':=S) (Q.out _ hW) (O.out _ hW) (s.out _ hW));have f:=za (fun W (hW:Ext i W) (hs:(zY ss p).size<=9223372036854775807)=>impl_TraceOfParts (c:=c) (t:=zY ss p) (Q.out _ hW) (s.out _ hW) hs);have o:=za (fun W (hW:Ext i W) (hs:(zY ss p).size<=9223372036854775807)=>impl_BreaksProperty (d:=R) (d':=S) (t:=zY ss p) (O.out _ hW) hs);have D:=za (fun (h:zbo ss p=true)=>show (zY ss p).size<=9223372036854775807 from by
  obtain⟨h1,Z⟩:=ziE h;have h3:=(zdc h1 Z).2;have h4:=(zaf h1).1.2;have h5:16 ^ ss.length<=16 ^ 3:=Nat.pow_le_pow_right dM h4;omega)
 have aE:=za (fun W (hW:Ext i W)=>hW.size);generalize vcT ss p=v at *;clear I hp Hh HT;generalize U0:i.alloc _=w2 at *;obtain⟨a,E⟩:=Ext.x1_ U0;clear U0;generalize i.heap.size=G at *;have U:=E.cells;have Z:=dB w2;go_upto_region 5 with (first
  |(go_at_call 16;refine (HI.out _ a).mono ?_;rintro e w3 ⟨B,m,d,B',m',d',C,q,e1,C',q',Y,aP,rfl,o1,o2,-,y⟩))
 have b:=(dB w3).alloc (.cells #[v.code,v.fst.al,.slice B m d,.slice B' m' d',v.snd.al,.slice C q e1,.slice C' q' Y,v.tr,v.ro] 33);replace E:=E.ext (y.trans b);have O1:=za (o1.own.reads.ext b);have O2:=za (o2.reads.ext b);replace a:=a.trans (y.trans b);clear U Z b y o1 o2;generalize U0:w3.alloc _=l at *;have T:=Ext.bl_ U0;clear U0;generalize w3.heap.size=G5 at *;have U:=E.cells;have V:=T.cells;have HF:=za (fun W (hW:Ext l W)=>O1.out.ext hW);have HG:=za (fun W (hW:Ext l W)=>O2.out.ext hW);have h4:=dB l;have aC:=za (show G5<=l.heap.size from Nat.le_of_lt T.lt);clear O1 O2 E T;refine uR (fun X=>Ext l X) [4] (zv.of [0,1,2,3,4,5]) ?_;refine uQ ?_;have J:Ext l l.drew:=(dB l).drew;have u:Ext l l.drew:=h4.drew;generalize l.drew=wd at *;refine ze fun K hK=>?_;go_simp;refine (HR.out _ (a.trans u)).mono ?_;rintro e wy ⟨X1,x1,y1,X2,x2,y2,X3,x3,y3,X4,x4,y4,rfl,q1,q2,hy⟩;have r:=u.trans hy;have H:=J.trans hy;refine hK.out _ _ H ?_;refine pT ?_;refine zb fun K hK=>?_;go_simp;refine (agChainVerdicts_same (HF.out _ r) q1.reads (HG.out _ r) q2.reads).mono (mQ fun w6 L=>?_);have F:=r.trans L;refine hK.out _ _ ?_;refine pT ?_;refine uQ ?_;refine zf ?_;clear u hy r H q1 q2 J L;have aH:=fun W (hW:Ext w6 W)=>U W (F.trans hW);have aI:=fun W (hW:Ext w6 W)=>V W (F.trans hW)
 by_cases hv1:v.code=1
 ·have n1:(v.code != 1)=false:=by simpa using hv1
  obtain⟨z1,z2,z3,z4⟩:=z.out.2 hv1;have f:=za (fun W (hW:Ext i W)=>f.out W hW (D.out z2));have o:=za (fun W (hW:Ext i W)=>o.out W hW (D.out z2));rw [z2] at HL;rw [z3] at f;rw [z4] at o;rw [z1] at V;go_wp2_with (first
   |(go_at_call 30;refine (HL.out _ (a.trans F)).mono (mQ fun wz M=>?_);have h7:=F.trans M)
   |(go_at_call 31;refine (f.out _ (a.trans h7)).mono (mQ fun wz M=>?_);have h8:=h7.trans M)
   |(go_at_call 32;refine (o.out _ (a.trans h8)).mono (mQ fun wz M=>?_);have h9:=h8.trans M))
  go_ret;exact⟨zm sM,x.trans (a.trans h9)⟩
 ·have n1:(v.code != 1)=true:=by simpa using hv1
  have z1:=z.out.1 hv1;rw [z1] at V;go_wp2_with fail
  go_ret;exact⟨zm sM,x.trans (a.trans F)⟩
end Go.Proofs.YtckbjnndaaoddaaGreatDoor
