/- The law FnCh -/
import Derived.Test.YtcfchopfijalpaaGreatDoorA18
set_option maxHeartbeats 4000000
set_option maxRecDepth 100000
namespace Go.Proofs.YtcfchopfijalpaaGreatDoor
open Go Go.RowKit
open Ext renaming refl->dB
theorem law_ChainSilent {A0:Option Addr} {n0 c0:Nat} {w:World}(h:Bytes w A0 n0)(hn:n0<=9223372036854775807)(hc:n0<=c0)(hc2:c0<=9223372036854775807)(hT:Tab w) :
  Calls Tryz.prog 9 #[.slice A0 n0 c0] w fun e w'=>e=.returned (.bool true)∧Ext w w':=by
 have Hh:=za h;have HT:=za (fun W (hW:Ext w W)=>hT.ext hW);clear h hT
 by_cases hbig:1048576<n0
 ·have r:(1048576:Int)<(n0:Int):=oM
  go_enter Tryz.func9,Tryz.ntmps9
  go_wp2;go_ret;exact⟨rfl,dB _⟩
 have r:(n0:Int)<=1048576:=oM;clear hbig
 go_enter Tryz.func9,Tryz.ntmps9
 go_upto_region 4 with (first
  |(go_at_call 42;refine (spec_DrawVerifyPair Hh.out hn hc hc2).mono ?_;rintro e I ⟨s,A,n,c,t,C,k,c2,p,B,m,d,B',m',d',rfl,⟨hs,ht,hp⟩,Y,y⟩))
 clear r hn hc hc2;have ap:=za (show n<=1000000 from oH Y.out);have HS:=za (fun W (hW:Ext I W)=>hs.ext hW);have HU:=za (fun W (hW:Ext I W)=>ht.ext hW);have HP:=za (fun W (hW:Ext I W)=>hp.ext hW);have S:=za (fun W (hW:Ext I W)=>HT.out W (y.trans hW));have HI:=za (fun W (hW:Ext I W)=>zhH (c:=c) (d:=d) (d':=d') (c2:=c2) (HS.out _ hW) (HP.out _ hW) (HU.out _ hW) (S.out _ hW));have HR:=za (fun W (hW:Ext I W)=>zhi (c:=c) (d:=d) (d':=d') (c2:=c2) (HS.out _ hW) (HP.out _ hW) (HU.out _ hW) ap.out hW.size);have aj:=za (fun (h:(vpT s t p).code≠3)=>chain_silent h);have HL:=za (fun W (hW:Ext I W)=>show Calls Tryz.prog 31 #[.slice (some W.heap.size) 3 3,.agg #[p.al,.slice B m d,.slice B' m' d']] (W.alloc (.cells #[s.al,s.st,.slice A n c,t.al,t.st,.slice C k c2,(0:Int),(1:Int),()] 38)) (RetVcH (W.alloc (.cells #[s.al,s.st,.slice A n c,t.al,t.st,.slice C k c2,(0:Int),(1:Int),()] 38)) (vcT [s,t,zey] p)) from by
  have f:=hW.alloc (.cells #[s.al,s.st,.slice A n c,t.al,t.st,.slice C k c2,(0:Int),(1:Int),()] 38);have ay:=sl_threeA (z:=zey) (Blk.new W 38 #[s.al,s.st,.slice A n c,t.al,t.st,.slice C k c2,(0:Int),(1:Int),()]) (HS.out _ f) (HU.out _ f) (sys_nil _ 0 1) f.size f.size (Nat.zero_le _);exact impl_VerifyChain (c:=3) (d:=d) (d':=d') ay (HP.out _ f) (S.out _ f) (Nat.le_refl _) f.size)
 generalize vpT s t p=v at *;generalize vcT [s,t,zey] p=u at *;clear hs ht hp Y Hh HT;generalize U0:((I.alloc _).alloc _).alloc _=w2 at *;obtain⟨a,J,L,M⟩:=Ext.x3_ U0;clear U0;generalize I.heap.size=G at *;have k1:=J.cell;have k2:=L.cell;have k3:=M.cell;go_upto_region 99 with fail
 refine (HI.out _ a).mono ?_;rintro e w3 ⟨E,e1,f1,E',aw,T,rfl,o1,D⟩;clear k1 k2 k3;replace J:=J.ext D;replace L:=L.ext D;replace M:=M.ext D;go_upto_region 5 with fail
 have b:=(dB w3).alloc (.cells #[v.code,v.asm.al,.slice E e1 f1,.slice E' aw T,v.tr,v.ro] 67);replace J:=J.ext b;replace L:=L.ext b;replace M:=M.ext b;have O1:=za (o1.reads.ext b);replace a:=a.trans (D.trans b);clear b D o1;generalize U0:w3.alloc _=F at *;have b5:=Ext.bl_ U0;clear U0;generalize w3.heap.size=G5 at *;have cS:=J.cells;have cT:=L.cells;have cP:=M.cells;have cV:=b5.cells;have HF:=za (fun W (hW:Ext F W)=>O1.out.ext hW);have h4:=dB F;clear O1 J L M b5;refine uR (fun X=>Ext F X) [] (zy.of [0,1,2,3,4,5,6,7,8,9,10,11]) ?_;refine uQ ?_;have x:Ext F F.drew:=(dB F).drew;have g:Ext F F.drew:=h4.drew;generalize F.drew=wd at *;refine ze fun K hK=>?_;go_simp;refine (HR.out _ (a.trans g)).mono ?_;rintro e wy ⟨X1,x1,y1,X2,x2,y2,rfl,q1,R⟩;have i:=g.trans R;have j:=x.trans R;refine hK.out _ _ j ?_;refine pT ?_;refine ze fun K hK=>?_;go_simp;skip;refine (agVerdicts_same (HF.out _ i) q1.reads).mono (mQ fun l O=>?_);have H:=i.trans O;refine hK.out _ _ (j.trans O) ?_;refine pT ?_;refine uQ ?_;refine zg ?_;clear g R i j q1 x O;have a8:=fun W (hW:Ext l W)=>cS W (H.trans hW);have ba:=fun W (hW:Ext l W)=>cT W (H.trans hW);have a6:=fun W (hW:Ext l W)=>cP W (H.trans hW);have bc:=fun W (hW:Ext l W)=>cV W (H.trans hW)
 by_cases hv3:v.code=3
 case pos =>
  have e3:(v.code==3)=true:=by simpa using hv3
  have aZ:=za hv3;clear hv3;go_upto_region 6 with fail
  refine uR (fun X=>Ext l X) [5] (zy.of [0,1,2,3,4,5,6]) ?_;refine uQ ?_;have x:Ext l l.drew:=(dB l).drew;have g:Ext F l.drew:=H.drew;generalize l.drew=wd at *;refine ze fun K hK=>?_;go_simp;refine (HR.out _ (a.trans g)).mono ?_;rintro e wy ⟨X1,x1,y1,X2,x2,y2,rfl,q1,R⟩;have i:=g.trans R;have j:=x.trans R;refine hK.out _ _ j ?_;refine pT ?_;refine zb fun K hK=>?_;go_simp;refine (agVerdicts_same (HF.out _ i) q1.reads).mono (mQ fun w7 Z=>?_);have U:=i.trans Z;refine hK.out _ _ ?_;refine pT ?_;refine uQ ?_;refine zg ?_;clear g R i j q1 x Z;have a9:=fun W (hW:Ext w7 W)=>cS W (U.trans hW);have bb:=fun W (hW:Ext w7 W)=>cT W (U.trans hW);have a7:=fun W (hW:Ext w7 W)=>cP W (U.trans hW);have bd:=fun W (hW:Ext w7 W)=>cV W (U.trans hW);go_wp2_with fail
  go_ret;exact⟨zu sM,y.trans (a.trans U)⟩
 case neg =>
  have e3:(v.code==3)=false:=by simpa using hv3
  have ak:=za (HL.out _ (a.trans H));have k1:=cS l H;have k2:=cT l H;have k3:∀ (o:Obj) (q:Nat),(l.alloc o).cell? ⟨G+1+1,q,none⟩=#[Value.int .i64 p.al,.slice B m d,.slice B' m' d'][q]?:=fun o q=>cP _ (H.alloc o) q;go_upto_region 99 with fail
  refine ak.out.mono ?_;rintro e w8 ⟨Z1,z1,y1,Z2,z2,y2,Z3,z3,y3,Z4,z4,y4,aU,rfl,o1,-,-,aa⟩;have h8:Ext F w8:=(H.alloc _).trans aa;clear k1 k2 k3;go_upto_region 8 with fail
  have Q:=(dB w8).alloc (.cells #[u.code,u.fst.al,.slice Z1 z1 y1,.slice Z2 z2 y2,u.snd.al,.slice Z3 z3 y3,.slice Z4 z4 y4,u.tr,u.ro] 53);have r1:=o1.own.reads.ext Q;have V:=h8.trans Q;clear Q aa o1;generalize U0:w8.alloc _=w9 at *;have b7:=Ext.bl_ U0;clear U0;generalize w8.heap.size=G7 at *;obtain⟨g1,g2,g3,g4⟩:=aj.out hv3;have ku:=b7.cell;have kv:=cV w9 V;rw [g4] at r1;have HA:=za (zdj (c:=y1) (c':=y2) (d:=f1) (d':=T) r1 (HF.out _ V));rw [g1,g2,g3,g4] at ku;clear b7 r1 g1 g2 g3 g4
  by_cases hv2:v.code=2
  ·have e2:(v.code==2)=true:=by simpa using hv2
   go_wp2_with fail
   go_ret;exact⟨zu sM,y.trans (a.trans V)⟩
  ·have e2:(v.code==2)=false:=by simpa using hv2
   by_cases hv0:v.code=0
   ·have n0:(v.code != 0)=false:=by simpa using hv0
    go_wp2_with (first
     |(go_at_call 40;refine HA.out.mono (mQ fun wz hz=>?_);have hE:=V.trans hz))
    go_ret;exact⟨zu sM,y.trans (a.trans hE)⟩
   ·have n0:(v.code != 0)=true:=by simpa using hv0
    go_wp2_with fail
    go_ret;exact⟨zu sM,y.trans (a.trans V)⟩
end Go.Proofs.YtcfchopfijalpaaGreatDoor
