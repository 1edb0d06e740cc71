/- The law FnCh -/
import Derived.Test.YtckbjnndaaoddaaGreatDoorN16
set_option maxHeartbeats 4000000
set_option maxRecDepth 100000
namespace Go.Proofs.YtckbjnndaaoddaaGreatDoor
open Go Go.RowKit
open Ext renaming bl_->eA,refl->dB
open Frm renaming setCell->dH
theorem yZLawCkMinimalb1 {P:Prop}(h:P:=by
 have k_b1:=b1.cell;have k_b2:=b2.cell;have k_b3:=b3.cell;have k_b4:=b4.cell;go_upto_region 99 with fail
 refine (HI.out _ hcur).mono (mQ fun w3 hx3=>?_);clear k_b1 k_b2 k_b3 k_b4;replace b1:=b1.ext hx3;replace b2:=b2.ext hx3;replace b3:=b3.ext hx3;replace b4:=b4.ext hx3;replace hcur:=hcur.trans hx3;have k_b1:=b1.cell;have k_b2:=b2.cell;have k_b3:=b3.cell;have k_b4:=b4.cell;go_upto_region 99 with fail
 refine (HR.out _ hcur).mono (mQ fun w4 hx4=>?_);clear k_b1 k_b2 k_b3 k_b4;replace b1:=b1.ext hx4;replace b2:=b2.ext hx4;replace b3:=b3.ext hx4;replace b4:=b4.ext hx4;replace hcur:=hcur.trans hx4;have k_b1:=b1.cell;have k_b2:=b2.cell;have k_b3:=b3.cell;have k_b4:=b4.cell;go_upto_region 99 with fail
 refine (HR.out _ hcur).mono (mQ fun w5 hx5=>?_);clear k_b1 k_b2 k_b3 k_b4;replace b1:=b1.ext hx5;replace b2:=b2.ext hx5;replace b3:=b3.ext hx5;replace b4:=b4.ext hx5;replace hcur:=hcur.trans hx5;have k_b1:=b1.cell;have k_b2:=b2.cell;have k_b3:=b3.cell;have k_b4:=b4.cell;go_wp2_with fail
 go_ret;exact⟨zj sM,hx1.trans hcur⟩
 ):P:=h
theorem yZLawCkMinimala1 {P:Prop}(h:P:=by
 rw [hz1] at HI HR;clear hz1;exact yZLawCkMinimalb1
 ):P:=h
theorem yZLawCkMinimala2 {P:Prop}(h:P:=by
 rw [hz2] at HI HR;clear hz2;exact yZLawCkMinimalb1
 ):P:=h
theorem law_CheckMinimal {A0:Option Addr} {n0 c0:Nat} {w:World}(h:Bytes w A0 n0)(hn:n0<=9223372036854775807)(hc:n0<=c0)(hc2:c0<=9223372036854775807)(hT:Tab w) :
  Calls Tryz.prog 10 #[.slice A0 n0 c0] w fun e w'=>e=.returned (.bool true)∧Ext w w':=by
 have Hh:=za h;have HT:=za (fun W (hW:Ext w W)=>hT.ext hW);clear h hT
 by_cases hbig:1048576<n0
 ·have Z:(1048576:Int)<(n0:Int):=oM
  go_enter Tryz.func10,Tryz.ntmps10
  go_wp2;go_ret;exact⟨rfl,dB _⟩
 have Z:(n0:Int)<=1048576:=oM;clear hbig
 go_enter Tryz.func10,Tryz.ntmps10
 go_upto_region 4 with (first
  |(go_at_call 33;refine (zhB Hh.out hn hc hc2).mono ?_;rintro e O ⟨s,A,n,c,t,C,k,c2,p,B,m,d,B',m',d',hd,a,D,q,f,D',q',f',x,rfl,⟨hs,ht,hp,ha⟩,aL,hx1⟩))
 clear Z hn hc hc2;have a2:=za aL.out;have ai:=za (show x.size<=9223372036854775807 from Nat.le_trans a2.out.2.2.2 oM);have HS:=za (fun W (hW:Ext O W)=>hs.ext hW);have HU:=za (fun W (hW:Ext O W)=>ht.ext hW);have HP:=za (fun W (hW:Ext O W)=>hp.ext hW);have HA:=za (fun W (hW:Ext O W)=>ha.ext hW);have T:=za (fun W (hW:Ext O W)=>HT.out W (hx1.trans hW));have HI:=za (fun W (hW:Ext O W)=>impl_CheckCertificate (c:=c) (d1:=d) (d1':=d') (c2:=c2) (d2:=f) (d2':=f') (hd:=hd) (x:=x) (HS.out _ hW) (HU.out _ hW) (HP.out _ hW) (HA.out _ hW) ai.out (T.out _ hW));have HR:=za (fun W (hW:Ext O W)=>spec_CheckCertificate (c:=c) (d1:=d) (d1':=d') (c2:=c2) (d2:=f) (d2':=f') (hd:=hd) (x:=x) (HS.out _ hW) (HU.out _ hW) (HP.out _ hW) (HA.out _ hW) ai.out);clear hs ht hp ha aL Hh HT;cases hd
 case false =>
  generalize U0:(((O.alloc _).alloc _).alloc _).alloc _=w2 at *;obtain⟨hcur,b1,b2,b3,b4⟩:=Ext.x4_ U0;clear U0;generalize hGe:O.heap.size=G at *;clear hGe
  by_cases hz1:zcW s t p false a x=1
  case pos =>
   exact yZLawCkMinimala1
  by_cases hz2:zcW s t p false a x=2
  case pos =>
   exact yZLawCkMinimala2
  obtain⟨vs,vt,vp,vc⟩:=checkZ_valid hz1 hz2;have z1:(zcW s t p false a x==1)=false:=by simpa using hz1
  have z2:(zcW s t p false a x==2)=false:=by simpa using hz2
  have ao:=za (fun W (hW:Ext O W)=>impl_TrimSystem (c:=c) (HS.out _ hW) (T.out _ hW) vs (st_nat vs) (by have:=(HS.out _ hW).1;have:=valid_len vs;omega));have ap:=za (fun W (hW:Ext O W)=>impl_TrimSystem (c:=c2) (HU.out _ hW) (T.out _ hW) vt (st_nat vt) (by have:=(HU.out _ hW).1;have:=valid_len vt;omega));have an:=za (fun W (hW:Ext O W)=>impl_MinimizeAutomaton (d:=d) (d':=d') (HP.out _ hW) vp);have Hv:=za (And.intro vs (And.intro vt vp));clear vs vt vp vc hz1 hz2;obtain⟨z,aa⟩:∃ z,Hid (zcW s t p false a x=z):=⟨_,za rfl⟩;rw [aa.out] at HI HR z1 z2;have k_b1:=b1.cell;have k_b2:=b2.cell;have k_b3:=b3.cell;have k_b4:=b4.cell;go_upto_region 99 with fail
  refine (HI.out _ hcur).mono (mQ fun w3 hx3=>?_);clear k_b1 k_b2 k_b3 k_b4;replace b1:=b1.ext hx3;replace b2:=b2.ext hx3;replace b3:=b3.ext hx3;replace b4:=b4.ext hx3;replace hcur:=hcur.trans hx3;have k_b1:=b1.cell;have k_b2:=b2.cell;have k_b3:=b3.cell;have k_b4:=b4.cell;go_upto_region 99 with fail
  refine (HR.out _ hcur).mono (mQ fun w4 hx4=>?_);clear k_b1 k_b2 k_b3 k_b4;replace b1:=b1.ext hx4;replace b2:=b2.ext hx4;replace b3:=b3.ext hx4;replace b4:=b4.ext hx4;replace hcur:=hcur.trans hx4;have k_b1:=b1.cell;have k_b2:=b2.cell;have k_b3:=b3.cell;have k_b4:=b4.cell;go_upto_region 99 with fail
  refine (ao.out _ hcur).mono ?_;rintro e w5 ⟨R5,A5,n5,c5,rfl,X,u,hx5⟩;clear k_b1 k_b2 k_b3 k_b4;replace b1:=b1.ext hx5;replace b2:=b2.ext hx5;replace b3:=b3.ext hx5;replace b4:=b4.ext hx5;replace hcur:=hcur.trans hx5;have q5:=za (same_sub Hv.out.1 (st_nat Hv.out.1) X.out);clear X;generalize zhJ s R5=s5 at *;go_upto_region 8 with fail
  have b:=(dB w5).alloc (.cells #[s5.al,s5.st,.slice A5 n5 c5] 38);replace b1:=b1.ext b;replace b2:=b2.ext b;replace b3:=b3.ext b;replace b4:=b4.ext b;replace u:=u.ext b;replace hcur:=hcur.trans b;clear b;generalize U0:w5.alloc _=w6 at *;have o:=eA U0;clear U0;generalize w5.heap.size=aY at *;have k_b1:=b1.cell;have k_b2:=b2.cell;have k_b3:=b3.cell;have k_b4:=b4.cell;have j:=o.cell;go_upto_region 99 with fail
  refine (ap.out _ hcur).mono ?_;rintro e w7 ⟨R7,A7,n7,c7,rfl,Y,F,E⟩;clear k_b1 k_b2 k_b3 k_b4 j;replace b1:=b1.ext E;replace b2:=b2.ext E;replace b3:=b3.ext E;replace b4:=b4.ext E;replace o:=o.ext E;replace u:=u.ext E;replace hcur:=hcur.trans E;have q7:=za (same_sub Hv.out.2.1 (st_nat Hv.out.2.1) Y.out);clear Y;generalize zhJ t R7=s7 at *;go_upto_region 9 with fail
  have b:=(dB w7).alloc (.cells #[s7.al,s7.st,.slice A7 n7 c7] 38);replace b1:=b1.ext b;replace b2:=b2.ext b;replace b3:=b3.ext b;replace b4:=b4.ext b;replace o:=o.ext b;replace u:=u.ext b;replace F:=F.ext b;replace hcur:=hcur.trans b;clear b;generalize U0:w7.alloc _=w8 at *;have y:=eA U0;clear U0;generalize w7.heap.size=aZ at *;have k_b1:=b1.cell;have k_b2:=b2.cell;have k_b3:=b3.cell;have k_b4:=b4.cell;have j:=o.cell;have v:=y.cell;go_upto_region 99 with fail
  refine (an.out _ hcur).mono ?_;rintro e w9 ⟨p9,B9,m9,d9,ak,au,V,rfl,o9,q9,r⟩;clear k_b1 k_b2 k_b3 k_b4 j v;replace b1:=b1.ext r;replace b2:=b2.ext r;replace b3:=b3.ext r;replace b4:=b4.ext r;replace o:=o.ext r;replace y:=y.ext r;replace u:=u.ext r;replace F:=F.ext r;replace hcur:=hcur.trans r;have L:=o9.reads;clear o9;have Q9:=za q9;clear q9;go_upto_region 10 with fail
  have b:=(dB w9).alloc (.cells #[p9.al,.slice B9 m9 d9,.slice ak au V] 27);replace b1:=b1.ext b;replace b2:=b2.ext b;replace b3:=b3.ext b;replace b4:=b4.ext b;replace o:=o.ext b;replace y:=y.ext b;replace u:=u.ext b;replace F:=F.ext b;replace L:=L.ext b;replace hcur:=hcur.trans b;clear b;generalize U0:w9.alloc _=wA at *;have I:=eA U0;clear U0;generalize w9.heap.size=a0 at *;have l5:=o.lt;have l7:=y.lt;have l9:=I.lt;have k_b4:=b4.cell;go_upto_region 11 with fail
  have b:=(dB wA).alloc (.cells #[.bool false,a.al,.slice D q f,.slice D' q' f',x] 60);have ar:=hcur.size;replace b1:=b1.ext b;replace b2:=b2.ext b;replace b3:=b3.ext b;replace b4:=b4.ext b;replace o:=o.ext b;replace y:=y.ext b;replace I:=I.ext b;replace u:=u.ext b;replace F:=F.ext b;replace L:=L.ext b;replace hcur:=hcur.trans b;clear b;generalize U0:wA.alloc _=wB at *;have Q:=eA U0;clear U0;generalize wA.heap.size=i at *;clear k_b4;have HF:=za (impl_CheckCertificate (c:=c5) (d1:=d9) (d1':=V) (c2:=c7) (d2:=f) (d2':=f') (hd:=false) (x:=x) u F L (HA.out _ hcur) ai.out (T.out _ hcur));have hE:=za ((checkZ_same0 (a:=a) (x:=x) q5.out q7.out Q9.out).trans aa.out);rw [hE.out] at HF;have k_b1:=b1.cell;have k_b2:=b2.cell;have k_b3:=b3.cell;have k_b4:=b4.cell;have j:=o.cell;have v:=y.cell;have J:=I.cell;have M:=Q.cell;go_upto_region 99 with fail
  refine (HF.out).mono (mQ fun wZ l=>?_);clear k_b1 k_b2 k_b3 k_b4 j v J M;replace b1:=b1.ext l;replace b2:=b2.ext l;replace b3:=b3.ext l;replace b4:=b4.ext l;replace o:=o.ext l;replace y:=y.ext l;replace I:=I.ext l;replace Q:=Q.ext l;replace u:=u.ext l;replace F:=F.ext l;replace L:=L.ext l;replace hcur:=hcur.trans l;have k_b1:=b1.cell;have k_b2:=b2.cell;have k_b3:=b3.cell;have k_b4:=b4.cell;have j:=o.cell;have v:=y.cell;have J:=I.cell;have M:=Q.cell;go_wp2_with fail
  go_ret;exact⟨zj sM,hx1.trans hcur⟩
 case true =>
  generalize U0:(((O.alloc _).alloc _).alloc _).alloc _=w2 at *;obtain⟨hcur,b1,b2,b3,b4⟩:=Ext.x4_ U0;clear U0;generalize hGe:O.heap.size=G at *;clear hGe
  by_cases hz1:zcW s t p true a x=1
  case pos =>
   exact yZLawCkMinimala1
  by_cases hz2:zcW s t p true a x=2
  case pos =>
   exact yZLawCkMinimala2
  obtain⟨vs,vt,vp,vc⟩:=checkZ_valid hz1 hz2;have z1:(zcW s t p true a x==1)=false:=by simpa using hz1
  have z2:(zcW s t p true a x==2)=false:=by simpa using hz2
  have ao:=za (fun W (hW:Ext O W)=>impl_TrimSystem (c:=c) (HS.out _ hW) (T.out _ hW) vs (st_nat vs) (by have:=(HS.out _ hW).1;have:=valid_len vs;omega));have ap:=za (fun W (hW:Ext O W)=>impl_TrimSystem (c:=c2) (HU.out _ hW) (T.out _ hW) vt (st_nat vt) (by have:=(HU.out _ hW).1;have:=valid_len vt;omega));have an:=za (fun W (hW:Ext O W)=>impl_MinimizeAutomaton (d:=d) (d':=d') (HP.out _ hW) vp);have Hv:=za (And.intro vs (And.intro vt vp));have va:zi a=true:=by
   unfold zL at vc;rw [if_pos rfl,Bool.and_eq_true] at vc;exact vc.1
  have a1:=za (fun W (hW:Ext O W)=>impl_MinimizeAutomaton (d:=f) (d':=f') (HA.out _ hW) va);clear va;clear vs vt vp vc hz1 hz2;obtain⟨z,aa⟩:∃ z,Hid (zcW s t p true a x=z):=⟨_,za rfl⟩;rw [aa.out] at HI HR z1 z2;have k_b1:=b1.cell;have k_b2:=b2.cell;have k_b3:=b3.cell;have k_b4:=b4.cell;go_upto_region 99 with fail
  refine (HI.out _ hcur).mono (mQ fun w3 hx3=>?_);clear k_b1 k_b2 k_b3 k_b4;replace b1:=b1.ext hx3;replace b2:=b2.ext hx3;replace b3:=b3.ext hx3;replace b4:=b4.ext hx3;replace hcur:=hcur.trans hx3;have k_b1:=b1.cell;have k_b2:=b2.cell;have k_b3:=b3.cell;have k_b4:=b4.cell;go_upto_region 99 with fail
  refine (HR.out _ hcur).mono (mQ fun w4 hx4=>?_);clear k_b1 k_b2 k_b3 k_b4;replace b1:=b1.ext hx4;replace b2:=b2.ext hx4;replace b3:=b3.ext hx4;replace b4:=b4.ext hx4;replace hcur:=hcur.trans hx4;have k_b1:=b1.cell;have k_b2:=b2.cell;have k_b3:=b3.cell;have k_b4:=b4.cell;go_upto_region 99 with fail
  refine (ao.out _ hcur).mono ?_;rintro e w5 ⟨R5,A5,n5,c5,rfl,X,u,hx5⟩;clear k_b1 k_b2 k_b3 k_b4;replace b1:=b1.ext hx5;replace b2:=b2.ext hx5;replace b3:=b3.ext hx5;replace b4:=b4.ext hx5;replace hcur:=hcur.trans hx5;have q5:=za (same_sub Hv.out.1 (st_nat Hv.out.1) X.out);clear X;generalize zhJ s R5=s5 at *;go_upto_region 8 with fail
  have b:=(dB w5).alloc (.cells #[s5.al,s5.st,.slice A5 n5 c5] 38);replace b1:=b1.ext b;replace b2:=b2.ext b;replace b3:=b3.ext b;replace b4:=b4.ext b;replace u:=u.ext b;replace hcur:=hcur.trans b;clear b;generalize U0:w5.alloc _=w6 at *;have o:=eA U0;clear U0;generalize w5.heap.size=aY at *;have k_b1:=b1.cell;have k_b2:=b2.cell;have k_b3:=b3.cell;have k_b4:=b4.cell;have j:=o.cell;go_upto_region 99 with fail
  refine (ap.out _ hcur).mono ?_;rintro e w7 ⟨R7,A7,n7,c7,rfl,Y,F,E⟩;clear k_b1 k_b2 k_b3 k_b4 j;replace b1:=b1.ext E;replace b2:=b2.ext E;replace b3:=b3.ext E;replace b4:=b4.ext E;replace o:=o.ext E;replace u:=u.ext E;replace hcur:=hcur.trans E;have q7:=za (same_sub Hv.out.2.1 (st_nat Hv.out.2.1) Y.out);clear Y;generalize zhJ t R7=s7 at *;go_upto_region 9 with fail
  have b:=(dB w7).alloc (.cells #[s7.al,s7.st,.slice A7 n7 c7] 38);replace b1:=b1.ext b;replace b2:=b2.ext b;replace b3:=b3.ext b;replace b4:=b4.ext b;replace o:=o.ext b;replace u:=u.ext b;replace F:=F.ext b;replace hcur:=hcur.trans b;clear b;generalize U0:w7.alloc _=w8 at *;have y:=eA U0;clear U0;generalize w7.heap.size=aZ at *;have k_b1:=b1.cell;have k_b2:=b2.cell;have k_b3:=b3.cell;have k_b4:=b4.cell;have j:=o.cell;have v:=y.cell;go_upto_region 99 with fail
  refine (an.out _ hcur).mono ?_;rintro e w9 ⟨p9,B9,m9,d9,ak,au,V,rfl,o9,q9,r⟩;clear k_b1 k_b2 k_b3 k_b4 j v;replace b1:=b1.ext r;replace b2:=b2.ext r;replace b3:=b3.ext r;replace b4:=b4.ext r;replace o:=o.ext r;replace y:=y.ext r;replace u:=u.ext r;replace F:=F.ext r;replace hcur:=hcur.trans r;have L:=o9.reads;clear o9;have Q9:=za q9;clear q9;go_upto_region 10 with fail
  have b:=(dB w9).alloc (.cells #[p9.al,.slice B9 m9 d9,.slice ak au V] 27);replace b1:=b1.ext b;replace b2:=b2.ext b;replace b3:=b3.ext b;replace b4:=b4.ext b;replace o:=o.ext b;replace y:=y.ext b;replace u:=u.ext b;replace F:=F.ext b;replace L:=L.ext b;replace hcur:=hcur.trans b;clear b;generalize U0:w9.alloc _=wA at *;have I:=eA U0;clear U0;generalize w9.heap.size=a0 at *;have l5:=o.lt;have l7:=y.lt;have l9:=I.lt;have k_b4:=b4.cell;go_upto_region 11 with fail
  have b:=(dB wA).alloc (.cells #[.bool true,a.al,.slice D q f,.slice D' q' f',x] 60);have ar:=hcur.size;replace b1:=b1.ext b;replace b2:=b2.ext b;replace b3:=b3.ext b;replace b4:=b4.ext b;replace o:=o.ext b;replace y:=y.ext b;replace I:=I.ext b;replace u:=u.ext b;replace F:=F.ext b;replace L:=L.ext b;replace hcur:=hcur.trans b;clear b;generalize U0:wA.alloc _=wB at *;have Q:=eA U0;clear U0;generalize wA.heap.size=i at *;clear k_b4;have l6:=Q.lt;have k_b1:=b1.cell;have k_b2:=b2.cell;have k_b3:=b3.cell;have k_b4:=b4.cell;have j:=o.cell;have v:=y.cell;have J:=I.cell;have M:=Q.cell;go_upto_region 99 with fail
  refine (a1.out _ hcur).mono ?_;rintro e wC ⟨a6,D6,n6,e6,S,U,R,rfl,o6,q6,H⟩;clear k_b1 k_b2 k_b3 k_b4 j v J M;replace b1:=b1.ext H;replace b2:=b2.ext H;replace b3:=b3.ext H;replace b4:=b4.ext H;replace o:=o.ext H;replace y:=y.ext H;replace I:=I.ext H;replace Q:=Q.ext H;replace u:=u.ext H;replace F:=F.ext H;replace L:=L.ext H;replace hcur:=hcur.trans H;have r6:=o6.reads;clear o6;have Q6:=za q6;clear q6;go_upto_region 13 with fail
  have b:=(dB wC).alloc (.cells #[a6.al,.slice D6 n6 e6,.slice S U R] 27);replace b1:=b1.ext b;replace b2:=b2.ext b;replace b3:=b3.ext b;replace b4:=b4.ext b;replace o:=o.ext b;replace y:=y.ext b;replace I:=I.ext b;replace Q:=Q.ext b;replace u:=u.ext b;replace F:=F.ext b;replace L:=L.ext b;replace r6:=r6.ext b;replace hcur:=hcur.trans b;clear b;generalize U0:wC.alloc _=wD at *;have bA:=eA U0;clear U0;generalize wC.heap.size=bt at *;have M:=Q.cell;have aN:=bA.cell;have aK:=Q.frozen;go_upto_region 14 with fail
  have hf:Frm (fun g=>g=i) wD (((wD.setCell ⟨i,1,none⟩ a6.al).setCell ⟨i,2,none⟩ (.slice D6 n6 e6)).setCell ⟨i,3,none⟩ (.slice S U R)):=((dH wD i 1 _).trans (dH _ i 2 _)).trans (dH _ i 3 _);have ag:Blk (((wD.setCell ⟨i,1,none⟩ a6.al).setCell ⟨i,2,none⟩ (.slice D6 n6 e6)).setCell ⟨i,3,none⟩ (.slice S U R)) i 60 #[.bool true,.int .i64 a6.al,.slice D6 n6 e6,.slice S U R,.string x]:=by simpa using ((Q.ae 1 (.int .i64 a6.al)).ae 2 (.slice D6 n6 e6)).ae 3 (.slice S U R)
  replace o:=o.frm hf (fun e=>o.diff Q dM e);replace y:=y.frm hf (fun e=>y.diff Q dM e);replace I:=I.frm hf (fun e=>I.diff Q dM e);replace u:=u.frm hf (fun g h1 h2 e=>by have e':g=i:=e;omega);replace F:=F.frm hf (fun g h1 h2 e=>by have e':g=i:=e;omega);replace L:=L.frm hf (fun g h1 h2 e=>by have e':g=i:=e;omega);replace r6:=r6.frm hf (fun g h1 h2 e=>by have e':g=i:=e;omega);replace hcur:Ext O (((wD.setCell ⟨i,1,none⟩ a6.al).setCell ⟨i,2,none⟩ (.slice D6 n6 e6)).setCell ⟨i,3,none⟩ (.slice S U R)):=hcur.frm hf (fun g hg e=>by have e':g=i:=e;omega);clear M aN aK b1 b2 b3 b4 Q bA hf;generalize ((wD.setCell ⟨i,1,none⟩ a6.al).setCell ⟨i,2,none⟩ (.slice D6 n6 e6)).setCell ⟨i,3,none⟩ (.slice S U R)=wE at *;have HF:=za (impl_CheckCertificate (c:=c5) (d1:=d9) (d1':=V) (c2:=c7) (d2:=e6) (d2':=R) (hd:=true) (x:=x) u F L r6 ai.out (T.out _ hcur));have hE:=za ((checkZ_same1 (x:=x) q5.out q7.out Q9.out Q6.out).trans aa.out);rw [hE.out] at HF;have j:=o.cell;have v:=y.cell;have J:=I.cell;have ab:=ag.cell;go_upto_region 99 with fail
  refine (HF.out).mono (mQ fun wZ l=>?_);clear j v J ab;replace o:=o.ext l;replace y:=y.ext l;replace I:=I.ext l;replace ag:=ag.ext l;replace u:=u.ext l;replace F:=F.ext l;replace L:=L.ext l;replace r6:=r6.ext l;replace hcur:=hcur.trans l;have j:=o.cell;have v:=y.cell;have J:=I.cell;have ab:=ag.cell;go_wp2_with fail
  go_ret;exact⟨zj sM,hx1.trans hcur⟩
end Go.Proofs.YtckbjnndaaoddaaGreatDoor
