/- The law FnCe -/
import Derived.Test.YtcfchopfijalpaaGreatDoorD17
set_option maxHeartbeats 4000000
set_option maxRecDepth 100000
namespace Go.Proofs.YtcfchopfijalpaaGreatDoor
open Go Go.RowKit
theorem law_CertifyVerdict {A0:Option Addr} {n0 c0:Nat} {w:World}(h:Bytes w A0 n0)(hn:n0<=9223372036854775807)(hc:n0<=c0)(hc2:c0<=9223372036854775807)(hT:Tab w) :
  Calls Tryz.prog 10 #[.slice A0 n0 c0] w fun e w'=>e=.returned (.bool true)∧Ext w w':=by
 have Hh:=za h;have HT:=za (fun W (hW:Ext w W)=>hT.ext hW);clear h hT
 by_cases hbig:1048576<n0
 ·have M:(1048576:Int)<(n0:Int):=oM
  go_enter Tryz.func10,Tryz.ntmps10
  go_wp2;go_ret;exact⟨rfl,Ext.refl _⟩
 have M:(n0:Int)<=1048576:=oM;clear hbig
 go_enter Tryz.func10,Tryz.ntmps10
 go_upto_region 4 with (first
  |(go_at_call 45;refine (spec_DrawCertifyPair Hh.out hn hc hc2).mono ?_;rintro e Q ⟨s,A,n,c,t,C,k,c2,p,B,m,d,B',m',d',rfl,⟨hs,ht,hp⟩,V,X⟩))
 clear M hn hc hc2;have ag:=za (show n<=1000000 from oH V.out);have HS:=za (fun W (hW:Ext Q W)=>hs.ext hW);have HU:=za (fun W (hW:Ext Q W)=>ht.ext hW);have Z:=za (fun W (hW:Ext Q W)=>hp.ext hW);have U:=za (fun W (hW:Ext Q W)=>HT.out W (X.trans hW));have HI:=za (fun W (hW:Ext Q W)=>zhQ (c:=c) (d:=d) (d':=d') (c2:=c2) (HS.out _ hW) (Z.out _ hW) (HU.out _ hW) (U.out _ hW));have HR:=za (fun W (hW:Ext Q W)=>spec_VerifyPairA (c:=c) (d:=d) (d':=d') (c2:=c2) (HS.out _ hW) (Z.out _ hW) (HU.out _ hW) ag.out hW.size);have HC:=za (fun W (hW:Ext Q W)=>impl_CertifyPair (c:=c) (d:=d) (d':=d') (c2:=c2) (HS.out _ hW) (Z.out _ hW) (HU.out _ hW) (U.out _ hW));have HD:=za (fun W (hW:Ext Q W)=>spec_CertifyPairB (c:=c) (d:=d) (d':=d') (c2:=c2) (HS.out _ hW) (Z.out _ hW) (HU.out _ hW) hW.size);have HK:=za (fun W (A:Option Addr) (n c:Nat) (A':Option Addr) (n' c' lo hi:Nat) (hA:zH W lo hi A n A' n' (vpT s t p).asm)=>zfA (c:=c) (c':=c') (cd:=(vpT s t p).code) (ro:=(vpT s t p).ro) hA (zhH s t p).1 (Nat.le_trans (zhH s t p).2 oM) (vpT_cert s t p).1 (vpT_cert s t p).2);generalize hdX (vpT s t p).code (vpT s t p).asm (vpT s t p).tr=hd at *;generalize zht (vpT s t p).code (vpT s t p).asm (vpT s t p).tr=a at *;generalize zhF (vpT s t p).code (vpT s t p).asm (vpT s t p).tr=x at *;generalize okC (vpT s t p).code (vpT s t p).asm (vpT s t p).tr=T at *;generalize vpT s t p=v at *;have aR:(T != T)=false:=by cases T<;>rfl
 have aQ:(T==T)=true:=by cases T<;>rfl
 clear hs ht hp V Hh HT;generalize U0:((Q.alloc _).alloc _).alloc _=w2 at *;obtain⟨b,u,y,z⟩:=Ext.x3_ U0;clear U0;generalize Q.heap.size=G at *;have j:=u.cell;have l:=y.cell;have o:=z.cell;go_upto_region 99 with fail
 refine (HC.out _ b).mono ?_;rintro e w3 ⟨D3,q3,f3,ad,ak,ah,rfl,o3,S⟩;clear j l o;replace u:=u.ext S;replace y:=y.ext S;replace z:=z.ext S;replace b:=b.trans S;have E:=o3.reads;clear o3;go_upto_region 5 with fail
 have f:=(Ext.refl w3).alloc (.cells #[.bool hd,a.al,.slice D3 q3 f3,.slice ad ak ah,x] 33);replace u:=u.ext f;replace y:=y.ext f;replace z:=z.ext f;replace E:=E.ext f;replace b:=b.trans f;clear f;generalize U0:w3.alloc _=w4 at *;have i:=Ext.bl_ U0;clear U0;generalize w3.heap.size=ar at *;have j:=u.cell;have l:=y.cell;have o:=z.cell;have g:=i.cell;go_upto_region 99 with fail
 refine (HD.out _ b).mono ?_;rintro e w5 ⟨D5,q5,f5,ae,am,ai,rfl,o5,J⟩;clear j l o g;replace u:=u.ext J;replace y:=y.ext J;replace z:=z.ext J;replace i:=i.ext J;replace E:=E.ext J;replace b:=b.trans J;have L:=o5.reads;clear o5;go_upto_region 6 with fail
 have f:=(Ext.refl w5).alloc (.cells #[.bool hd,a.al,.slice D5 q5 f5,.slice ae am ai,x] 33);replace u:=u.ext f;replace y:=y.ext f;replace z:=z.ext f;replace i:=i.ext f;replace E:=E.ext f;replace L:=L.ext f;replace b:=b.trans f;clear f;generalize U0:w5.alloc _=w6 at *;have r:=Ext.bl_ U0;clear U0;generalize w5.heap.size=au at *;have j:=u.cell;have l:=y.cell;have o:=z.cell;have g:=i.cell;have q:=r.cell;go_upto_region 99 with fail
 refine (agCertificates_same (hd:=hd) (x:=x) E L).mono (mQ fun w7 F=>?_);clear j l o g q;replace u:=u.ext F;replace y:=y.ext F;replace z:=z.ext F;replace i:=i.ext F;replace r:=r.ext F;replace E:=E.ext F;replace L:=L.ext F;replace b:=b.trans F;have j:=u.cell;have l:=y.cell;have o:=z.cell;have g:=i.cell;have q:=r.cell;go_upto_region 99 with fail
 refine (HI.out _ b).mono ?_;rintro e w8 ⟨Z1,z1,y1,Z2,z2,y2,rfl,oV,H⟩;clear j l o g q;replace u:=u.ext H;replace y:=y.ext H;replace z:=z.ext H;replace i:=i.ext H;replace r:=r.ext H;replace E:=E.ext H;replace L:=L.ext H;replace b:=b.trans H;have j:=u.cell;have l:=y.cell;have o:=z.cell;have g:=i.cell;have q:=r.cell;go_upto_region 99 with fail
 refine (HK.out _ _ _ _ _ _ _ _ _ oV.reads).mono ?_;rintro e w9 ⟨D9,q9,f9,af,an,aj,rfl,o9,I⟩;clear j l o g q;replace u:=u.ext I;replace y:=y.ext I;replace z:=z.ext I;replace i:=i.ext I;replace r:=r.ext I;replace E:=E.ext I;replace L:=L.ext I;replace b:=b.trans I;have Y:=o9.reads;clear o9 oV;go_upto_region 9 with fail
 have f:=(Ext.refl w9).alloc (.cells #[.bool hd,a.al,.slice D9 q9 f9,.slice af an aj,x] 33);replace u:=u.ext f;replace y:=y.ext f;replace z:=z.ext f;replace i:=i.ext f;replace r:=r.ext f;replace E:=E.ext f;replace L:=L.ext f;replace Y:=Y.ext f;replace b:=b.trans f;clear f;generalize U0:w9.alloc _=wA at *;have R:=Ext.bl_ U0;clear U0;generalize w9.heap.size=av at *;have j:=u.cell;have l:=y.cell;have o:=z.cell;have g:=i.cell;have q:=r.cell;have O:=R.cell;go_upto_region 99 with fail
 refine (agCertificates_same (hd:=hd) (x:=x) Y E).mono (mQ fun wB D=>?_);clear j l o g q O;replace u:=u.ext D;replace y:=y.ext D;replace z:=z.ext D;replace i:=i.ext D;replace r:=r.ext D;replace R:=R.ext D;replace E:=E.ext D;replace L:=L.ext D;replace Y:=Y.ext D;replace b:=b.trans D;have j:=u.cell;have l:=y.cell;have o:=z.cell;have g:=i.cell;have q:=r.cell;have O:=R.cell;go_wp2_with fail
 go_ret;exact⟨zm sM,X.trans b⟩
end Go.Proofs.YtcfchopfijalpaaGreatDoor
