/- The law FnCh -/
import Derived.Test.YtcfchopfijalpaaGreatDoorE17
set_option maxHeartbeats 4000000
set_option maxRecDepth 100000
namespace Go.Proofs.YtcfchopfijalpaaGreatDoor
open Go Go.RowKit
theorem yZLawPCheckAgainstb1 {P:Prop}(h:P:=by
 have k_b1:=b1.cell;have k_b2:=b2.cell;have k_b3:=b3.cell;have k_b4:=b4.cell;have k_g4:=g4.cell;have k_bc7:=bc7.cell;go_upto_region 99 with fail
 refine (HK2.out).mono (mQ fun w9 hx9=>?_);clear k_b1 k_b2 k_b3 k_b4 k_g4 k_bc7;replace b1:=b1.ext hx9;replace b2:=b2.ext hx9;replace b3:=b3.ext hx9;replace b4:=b4.ext hx9;replace g4:=g4.ext hx9;replace bc7:=bc7.ext hx9;replace r3:=r3.ext hx9;replace hcur:=hcur.trans hx9;have k_b1:=b1.cell;have k_b2:=b2.cell;have k_b3:=b3.cell;have k_b4:=b4.cell;have k_g4:=g4.cell;have k_bc7:=bc7.cell;go_wp2_with fail
 go_ret;exact⟨zm sM,hx1.trans hcur⟩
 ):P:=h
theorem yZLawPCheckAgainsta1 {P:Prop}(h:P:=by
 obtain rfl:=hsnd hy3;rw [hy3] at HK2;have hbe:(hd3==hd3)=true:=by cases hd3<;>rfl
 exact yZLawPCheckAgainstb1
 ):P:=h
theorem yZLawPCheckAgainsta2 {P:Prop}(h:P:=by
 generalize zcR s t p hd3 a3 x3=z3 at *;exact yZLawPCheckAgainstb1
 ):P:=h
theorem law_CheckAgainst {A0 A9:Option Addr} {n0 c0 n9 c9:Nat} {w:World}(h:Bytes w A0 n0)(hn:n0<=9223372036854775807)(hc:n0<=c0)(hc2:c0<=9223372036854775807) (g:Bytes w A9 n9) (gn:n9<=9223372036854775807) (gc:n9<=c9) (gc2:c9<=9223372036854775807)(hT:Tab w) :
  Calls Tryz.prog 14 #[.slice A0 n0 c0,.slice A9 n9 c9] w fun e w'=>e=.returned (.bool true)∧Ext w w':=by
 have Hh:=za h;have Hg:=za (fun W (hW:Ext w W)=>g.ext hW);have HT:=za (fun W (hW:Ext w W)=>hT.ext hW);clear h g hT
 by_cases hbig:1048576<n0
 ·have l:(1048576:Int)<(n0:Int):=oM
  go_enter Tryz.func14,Tryz.ntmps14
  go_wp2;go_ret;exact⟨rfl,Ext.refl _⟩
 have l:(n0:Int)<=1048576:=oM;clear hbig
 by_cases hbig:1048576<n9
 ·have o:(1048576:Int)<(n9:Int):=oM
  go_enter Tryz.func14,Tryz.ntmps14
  go_wp2;go_ret;exact⟨rfl,Ext.refl _⟩
 have o:(n9:Int)<=1048576:=oM;clear hbig
 go_enter Tryz.func14,Tryz.ntmps14
 go_upto_region 4 with (first
  |(go_at_call 53;refine (ziP Hh.out hn hc hc2).mono ?_;rintro e v ⟨s,A,n,c,t,C,k,c2,p,B,m,d,B',m',d',hd,a,D,q,f,D',q',f',x,rfl,⟨hs,ht,hp,ha⟩,H,hx1⟩))
 clear l o hn hc hc2;have M:=za (show (n<=1000000∧x.size<=9223372036854775807) from ⟨oH H.out.1,Nat.le_trans H.out.2.2.2 oM⟩);have T:=za (fun W (hW:Ext v W)=>hs.ext hW);have U:=za (fun W (hW:Ext v W)=>ht.ext hW);have S:=za (fun W (hW:Ext v W)=>hp.ext hW);have HA:=za (fun W (hW:Ext v W)=>ha.ext hW);have F:=za (fun W (hW:Ext v W)=>HT.out W (hx1.trans hW));have L:=za (fun W (hW:Ext v W)=>impl_CheckCertificate (c:=c) (d1:=d) (d1':=d') (c2:=c2) (d2:=f) (d2':=f') (hd:=hd) (x:=x) (T.out _ hW) (U.out _ hW) (S.out _ hW) (HA.out _ hW) M.out.2 (F.out _ hW));have y:=za (fun W (hW:Ext v W)=>spec_CheckCertificate (c:=c) (d1:=d) (d1':=d') (c2:=c2) (d2:=f) (d2':=f') (hd:=hd) (x:=x) (T.out _ hW) (U.out _ hW) (S.out _ hW) (HA.out _ hW) M.out.2);have HC:=za (fun W (hW:Ext v W)=>impl_CertifyPair (c:=c) (d:=d) (d':=d') (c2:=c2) (T.out _ hW) (S.out _ hW) (U.out _ hW) (F.out _ hW));have HZ:=za (fun (h:okC (vpT s t p).code (vpT s t p).asm (vpT s t p).tr=true)=>cert_accepted h);generalize hdX (vpT s t p).code (vpT s t p).asm (vpT s t p).tr=J at *;generalize zer (vpT s t p).code (vpT s t p).asm (vpT s t p).tr=aX at *;generalize zeE (vpT s t p).code (vpT s t p).asm (vpT s t p).tr=sX at *;generalize okC (vpT s t p).code (vpT s t p).asm (vpT s t p).tr=ok at *;clear hs ht hp ha H Hh HT;generalize U0:(((v.alloc _).alloc _).alloc _).alloc _=w2 at *;obtain⟨hcur,b1,b2,b3,b4⟩:=Ext.x4_ U0;clear U0;generalize v.heap.size=G at *;have k_b1:=b1.cell;have k_b2:=b2.cell;have k_b3:=b3.cell;have k_b4:=b4.cell;go_upto_region 99 with fail
 refine (L.out _ hcur).mono (mQ fun w3 r=>?_);clear k_b1 k_b2 k_b3 k_b4;replace b1:=b1.ext r;replace b2:=b2.ext r;replace b3:=b3.ext r;replace b4:=b4.ext r;replace hcur:=hcur.trans r;have k_b1:=b1.cell;have k_b2:=b2.cell;have k_b3:=b3.cell;have k_b4:=b4.cell;go_upto_region 6 with (first
  |(go_at_call 53;refine (ziP (Hg.out _ (hx1.trans hcur)) gn gc gc2).mono ?_;rintro e w4 ⟨s3,A3,n3,c3,t3,C3,k3,e3,p3,B3,m3,d3,X,ai,ab,hd3,a3,D3,q3,f3,Y,am,O,x3,rfl,⟨af,ag,ae,Q⟩,E,u⟩))
 clear k_b1 k_b2 k_b3 k_b4;replace b1:=b1.ext u;replace b2:=b2.ext u;replace b3:=b3.ext u;replace b4:=b4.ext u;replace hcur:=hcur.trans u;obtain⟨w5,U0⟩:∃ x,Hid ((((w4.alloc (.cells #[s3.al,s3.st,.slice A3 n3 c3] 38)).alloc (.cells #[t3.al,t3.st,.slice C3 k3 e3] 38)).alloc (.cells #[p3.al,.slice B3 m3 d3,.slice X ai ab] 31)).alloc (.cells #[.bool hd3,a3.al,.slice D3 q3 f3,.slice Y am O,x3] 33)=x):=⟨_,za rfl⟩;have I:Ext w4 w5:=(((((Ext.refl _).alloc _).alloc _).alloc _).alloc _).trans (Ext.eq_ U0.out);obtain⟨g1,g2,g3,g4⟩:=zgh (Ext.eq_ U0.out);have r3:=Q.ext I;have aa:=za (show x3.size<=9223372036854775807 from Nat.le_trans E.out.2.2.2 oM);replace b1:=b1.ext I;replace b2:=b2.ext I;replace b3:=b3.ext I;replace b4:=b4.ext I;replace hcur:=hcur.trans I;clear af ag ae Q E I g1 g2 g3 gn gc gc2 Hg;rw [U0.out] at *;generalize w4.heap.size=G4 at *
 by_cases hz:zcR s t p hd a x=0
 case neg =>
  have z0:(zcR s t p hd a x != 0)=true:=by simpa using hz
  generalize zcR s t p hd a x=z at *;clear hz;have k_b1:=b1.cell;have k_b2:=b2.cell;have k_b3:=b3.cell;have k_b4:=b4.cell;have k_g4:=g4.cell;go_upto_region 99 with fail
  refine (y.out _ hcur).mono (mQ fun w6 b=>?_);clear k_b1 k_b2 k_b3 k_b4 k_g4;replace b1:=b1.ext b;replace b2:=b2.ext b;replace b3:=b3.ext b;replace b4:=b4.ext b;replace g4:=g4.ext b;replace r3:=r3.ext b;replace hcur:=hcur.trans b;have k_b1:=b1.cell;have k_b2:=b2.cell;have k_b3:=b3.cell;have k_b4:=b4.cell;have k_g4:=g4.cell;go_upto_region 99 with fail
  refine (y.out _ hcur).mono (mQ fun V i=>?_);clear k_b1 k_b2 k_b3 k_b4 k_g4;replace b1:=b1.ext i;replace b2:=b2.ext i;replace b3:=b3.ext i;replace b4:=b4.ext i;replace g4:=g4.ext i;replace r3:=r3.ext i;replace hcur:=hcur.trans i;have k_b1:=b1.cell;have k_b2:=b2.cell;have k_b3:=b3.cell;have k_b4:=b4.cell;have k_g4:=g4.cell;go_wp2_with fail
  go_ret;exact⟨zm sM,hx1.trans hcur⟩
 case pos =>
  have Hz:=za hz;rw [hz] at L y ⊢;clear hz;have k_b1:=b1.cell;have k_b2:=b2.cell;have k_b3:=b3.cell;have k_b4:=b4.cell;have k_g4:=g4.cell;go_upto_region 99 with fail
  refine (y.out _ hcur).mono (mQ fun w6 b=>?_);clear k_b1 k_b2 k_b3 k_b4 k_g4;replace b1:=b1.ext b;replace b2:=b2.ext b;replace b3:=b3.ext b;replace b4:=b4.ext b;replace g4:=g4.ext b;replace r3:=r3.ext b;replace hcur:=hcur.trans b;have k_b1:=b1.cell;have k_b2:=b2.cell;have k_b3:=b3.cell;have k_b4:=b4.cell;have k_g4:=g4.cell;go_upto_region 99 with fail
  refine (HC.out _ hcur).mono ?_;rintro e V ⟨D7,q7,f7,Z,an,ad,rfl,o7,i⟩;clear k_b1 k_b2 k_b3 k_b4 k_g4;replace b1:=b1.ext i;replace b2:=b2.ext i;replace b3:=b3.ext i;replace b4:=b4.ext i;replace g4:=g4.ext i;replace r3:=r3.ext i;replace hcur:=hcur.trans i;go_upto_region 9 with fail
  have j:=(Ext.refl V).alloc (.cells #[.bool J,aX.al,.slice D7 q7 f7,.slice Z an ad,sX] 33);replace b1:=b1.ext j;replace b2:=b2.ext j;replace b3:=b3.ext j;replace b4:=b4.ext j;replace g4:=g4.ext j;replace r3:=r3.ext j;replace hcur:=hcur.trans j;clear j;generalize U0:V.alloc _=w8 at *;have bc7:=Ext.bl_ U0;clear U0;generalize V.heap.size=ap at *;have HK2:=za (impl_CheckCertificate (c:=c) (d1:=d) (d1':=d') (c2:=c2) (d2:=f3) (d2':=O) (hd:=hd3) (x:=x3) (T.out _ hcur) (U.out _ hcur) (S.out _ hcur) r3 aa.out (F.out _ hcur));have R:(!ok || J==hd)=true:=by
   cases hok:ok
   ·rfl
   ·have:=check_against Hz.out (HZ.out hok);simp [this]
  have hsnd:zcR s t p hd3 a3 x3=0->hd3=hd:=fun h=>check_against Hz.out h;cases hok:ok with
  |false =>
   subst hok
   by_cases hy3:zcR s t p hd3 a3 x3=0
   ·exact yZLawPCheckAgainsta1
   ·have n3:(zcR s t p hd3 a3 x3 != 0)=true:=by simpa using hy3
    have hbe:(hd==hd)=true:=by cases hd<;>rfl
    exact yZLawPCheckAgainsta2
  |true =>
   subst hok;have ah:J=hd:=by simpa using R
   subst ah
   by_cases hy3:zcR s t p hd3 a3 x3=0
   ·exact yZLawPCheckAgainsta1
   ·have n3:(zcR s t p hd3 a3 x3 != 0)=true:=by simpa using hy3
    have hbe:(J==J)=true:=by cases J<;>rfl
    exact yZLawPCheckAgainsta2
end Go.Proofs.YtcfchopfijalpaaGreatDoor
