/- The law FnCe -/
import Derived.Test.YtcfchopfijalpaaGreatDoorD17
set_option maxHeartbeats 4000000
set_option maxRecDepth 100000
namespace Go.Proofs.YtcfchopfijalpaaGreatDoor
open Go Go.RowKit
theorem law_CertifyAccepted {A0:Option Addr} {n0 c0:Nat} {w:World}(h:Bytes w A0 n0)(hn:n0<=9223372036854775807)(hc:n0<=c0)(hc2:c0<=9223372036854775807)(hT:Tab w) :
  Calls Tryz.prog 13 #[.slice A0 n0 c0] w fun e w'=>e=.returned (.bool true)∧Ext w w':=by
 have Hh:=za h;have HT:=za (fun W (hW:Ext w W)=>hT.ext hW);clear h hT
 by_cases hbig:1048576<n0
 ·have H:(1048576:Int)<(n0:Int):=oM
  go_enter Tryz.func13,Tryz.ntmps13
  go_wp2;go_ret;exact⟨rfl,Ext.refl _⟩
 have H:(n0:Int)<=1048576:=oM;clear hbig
 go_enter Tryz.func13,Tryz.ntmps13
 go_upto_region 4 with (first
  |(go_at_call 45;refine (spec_DrawCertifyPair Hh.out hn hc hc2).mono ?_;rintro e J ⟨s,A,n,c,t,C,k,c2,p,B,m,d,B',m',d',rfl,⟨hs,ht,hp⟩,X,O⟩))
 clear H hn hc hc2;have aa:=za (show n<=1000000 from oH X.out);have T:=za (fun W (hW:Ext J W)=>hs.ext hW);have U:=za (fun W (hW:Ext J W)=>ht.ext hW);have S:=za (fun W (hW:Ext J W)=>hp.ext hW);have M:=za (fun W (hW:Ext J W)=>HT.out W (O.trans hW));have HI:=za (fun W (hW:Ext J W)=>zhQ (c:=c) (d:=d) (d':=d') (c2:=c2) (T.out _ hW) (S.out _ hW) (U.out _ hW) (M.out _ hW));have HR:=za (fun W (hW:Ext J W)=>spec_VerifyPairA (c:=c) (d:=d) (d':=d') (c2:=c2) (T.out _ hW) (S.out _ hW) (U.out _ hW) aa.out hW.size);have HC:=za (fun W (hW:Ext J W)=>impl_CertifyPair (c:=c) (d:=d) (d':=d') (c2:=c2) (T.out _ hW) (S.out _ hW) (U.out _ hW) (M.out _ hW));have HD:=za (fun W (hW:Ext J W)=>spec_CertifyPairB (c:=c) (d:=d) (d':=d') (c2:=c2) (T.out _ hW) (S.out _ hW) (U.out _ hW) hW.size);have HZ:=za (fun (h:okC (vpT s t p).code (vpT s t p).asm (vpT s t p).tr=true)=>cert_accepted h);have HX:=za (show (zhF (vpT s t p).code (vpT s t p).asm (vpT s t p).tr).size<=9223372036854775807 by
  have:=(zhH s t p).2;unfold zhF;split
  ·omega
  ·exact Nat.zero_le _)
 generalize hdX (vpT s t p).code (vpT s t p).asm (vpT s t p).tr=hd at *;generalize zht (vpT s t p).code (vpT s t p).asm (vpT s t p).tr=a at *;generalize zhF (vpT s t p).code (vpT s t p).asm (vpT s t p).tr=x at *;generalize okC (vpT s t p).code (vpT s t p).asm (vpT s t p).tr=Q at *;have aC:(Q != Q)=false:=by cases Q<;>rfl
 have aB:(Q==Q)=true:=by cases Q<;>rfl
 clear hs ht hp X Hh HT;generalize U0:((J.alloc _).alloc _).alloc _=w2 at *;obtain⟨b,v,y,z⟩:=Ext.x3_ U0;clear U0;generalize J.heap.size=G at *;have i:=v.cell;have j:=y.cell;have l:=z.cell;go_upto_region 99 with fail
 refine (HC.out _ b).mono ?_;rintro e w3 ⟨D3,q3,f3,Y,ad,V,rfl,o3,L⟩;clear i j l;replace v:=v.ext L;replace y:=y.ext L;replace z:=z.ext L;replace b:=b.trans L;have E:=o3.reads;clear o3;go_upto_region 5 with fail
 have q:=(Ext.refl w3).alloc (.cells #[.bool hd,a.al,.slice D3 q3 f3,.slice Y ad V,x] 33);replace v:=v.ext q;replace y:=y.ext q;replace z:=z.ext q;replace E:=E.ext q;replace b:=b.trans q;clear q;generalize U0:w3.alloc _=w4 at *;have o:=Ext.bl_ U0;clear U0;generalize w3.heap.size=ah at *;have i:=v.cell;have j:=y.cell;have l:=z.cell;have f:=o.cell;go_upto_region 99 with fail
 refine (HD.out _ b).mono ?_;rintro e w5 ⟨D5,q5,f5,Z,ae,ab,rfl,o5,F⟩;clear i j l f;replace v:=v.ext F;replace y:=y.ext F;replace z:=z.ext F;replace o:=o.ext F;replace E:=E.ext F;replace b:=b.trans F;have I:=o5.reads;clear o5;go_upto_region 6 with fail
 have q:=(Ext.refl w5).alloc (.cells #[.bool hd,a.al,.slice D5 q5 f5,.slice Z ae ab,x] 33);replace v:=v.ext q;replace y:=y.ext q;replace z:=z.ext q;replace o:=o.ext q;replace E:=E.ext q;replace I:=I.ext q;replace b:=b.trans q;clear q;generalize U0:w5.alloc _=w6 at *;have u:=Ext.bl_ U0;clear U0;generalize w5.heap.size=ai at *;have i:=v.cell;have j:=y.cell;have l:=z.cell;have f:=o.cell;have r:=u.cell;go_upto_region 99 with fail
 refine (agCertificates_same (hd:=hd) (x:=x) E I).mono (mQ fun w7 D=>?_);clear i j l f r;replace v:=v.ext D;replace y:=y.ext D;replace z:=z.ext D;replace o:=o.ext D;replace u:=u.ext D;replace E:=E.ext D;replace I:=I.ext D;replace b:=b.trans D;cases hok:Q with
 |false =>
  subst hok;have i:=v.cell;have j:=y.cell;have l:=z.cell;have f:=o.cell;have r:=u.cell;go_upto_region 99 with fail
  refine (agCertificates_same (hd:=hd) (x:=x) E I).mono (mQ fun w8 g=>?_);clear i j l f r;replace v:=v.ext g;replace y:=y.ext g;replace z:=z.ext g;replace o:=o.ext g;replace u:=u.ext g;replace E:=E.ext g;replace I:=I.ext g;replace b:=b.trans g;have i:=v.cell;have j:=y.cell;have l:=z.cell;have f:=o.cell;have r:=u.cell;go_wp2_with fail
  go_ret;exact⟨zm sM,O.trans b⟩
 |true =>
  subst hok;have hz:=HZ.out rfl;have R:=za (impl_CheckCertificate (c:=c) (d1:=d) (d1':=d') (c2:=c2) (d2:=f3) (d2':=V) (hd:=hd) (x:=x) (T.out _ b) (U.out _ b) (S.out _ b) E HX.out (M.out _ b));rw [hz] at R;have i:=v.cell;have j:=y.cell;have l:=z.cell;have f:=o.cell;have r:=u.cell;go_upto_region 99 with fail
  refine (R.out).mono (mQ fun w8 g=>?_);clear i j l f r;replace v:=v.ext g;replace y:=y.ext g;replace z:=z.ext g;replace o:=o.ext g;replace u:=u.ext g;replace E:=E.ext g;replace I:=I.ext g;replace b:=b.trans g;have i:=v.cell;have j:=y.cell;have l:=z.cell;have f:=o.cell;have r:=u.cell;go_wp2_with fail
  go_ret;exact⟨zm sM,O.trans b⟩
end Go.Proofs.YtcfchopfijalpaaGreatDoor
