/- The law FnCh -/
import Derived.Test.YtfcjhpodichpjaaGreatDoorQ16
set_option maxHeartbeats 4000000
set_option maxRecDepth 100000
namespace Go.Proofs.YtfcjhpodichpjaaGreatDoor
open Go Go.RowKit
open List renaming length_append->dL,length_cons->eI
theorem yZLawCqa1 {P:Prop}(h:P:=by
 rintro e w8 ⟨rfl,hx8⟩;clear k_b1 k_b2 k_b3 k_b4 k_b5;replace b1:=b1.ext hx8;replace b2:=b2.ext hx8;replace b3:=b3.ext hx8;replace b4:=b4.ext hx8;replace b5:=b5.ext hx8;replace r5:=r5.ext hx8;replace hcur:=hcur.trans hx8;have k_b1:=b1.cell;have k_b2:=b2.cell;have k_b3:=b3.cell;have k_b4:=b4.cell;have k_b5:=b5.cell;go_wp2_with fail
 go_ret;exact⟨zj (by first|(simp;done)|(simp;omega)),hx1.trans hcur⟩
 ):P:=h
theorem law_CheckParsed {A0:Option Addr} {n0 c0:Nat} {w:World}(h:Bytes w A0 n0)(hn:n0<=9223372036854775807)(hc:n0<=c0)(hc2:c0<=9223372036854775807)(hT:Tab w)(hE:Sent w) :
  Calls Tryz.prog 4 #[.slice A0 n0 c0] w fun e w'=>e=.returned (.bool true)∧Ext w w':=by
 have Hh:=za h;have HT:=za (fun W (hW:Ext w W)=>hT.ext hW);have HE:=za (fun W (hW:Ext w W)=>hE.ext hW);clear h hT hE
 by_cases hbig:1048576<n0
 ·have v:(1048576:Int)<(n0:Int):=oM
  go_enter Tryz.func4,Tryz.ntmps4
  go_wp2;go_ret;exact⟨rfl,Ext.refl _⟩
 have v:(n0:Int)<=1048576:=oM;clear hbig
 go_enter Tryz.func4,Tryz.ntmps4
 go_upto_region 4 with (first
  |(go_at_call 15;refine (zhz Hh.out hn hc hc2).mono ?_;rintro e j ⟨s,A,n,c,t,C,k,c2,p,B,m,d,B',m',d',hd,a,D,q,f,D',q',f',x,rfl,⟨hs,ht,hp,ha⟩,V,hx1⟩))
 clear v hn hc hc2;have M:=za (show x.size<=5000 from V.out.2.2.2);have O:=za (show x.size<=9223372036854775807 from Nat.le_trans M.out oM);have HS:=za (fun W (hW:Ext j W)=>hs.ext hW);have HU:=za (fun W (hW:Ext j W)=>ht.ext hW);have HP:=za (fun W (hW:Ext j W)=>hp.ext hW);have Y:=za (fun W (hW:Ext j W)=>ha.ext hW);have S:=za (fun W (hW:Ext j W)=>HT.out W (hx1.trans hW));have Z:=za (fun W (hW:Ext j W)=>HE.out W (hx1.trans hW));clear hs ht hp ha V Hh HT HE;generalize U0:(((j.alloc _).alloc _).alloc _).alloc _=w2 at *;obtain⟨hcur,b1,b2,b3,b4⟩:=Ext.x4_ U0;clear U0;generalize j.heap.size=G at *;have HI:=za (fun W (hW:Ext j W)=>impl_CheckCertificate (c:=c) (d1:=d) (d1':=d') (c2:=c2) (d2:=f) (d2':=f') (hd:=hd) (x:=x) (HS.out _ hW) (HU.out _ hW) (HP.out _ hW) (Y.out _ hW) O.out (S.out _ hW));have HR:=za (fun W (hW:Ext j W)=>spec_CheckCertificate (c:=c) (d1:=d) (d1':=d') (c2:=c2) (d2:=f) (d2':=f') (hd:=hd) (x:=x) (HS.out _ hW) (HU.out _ hW) (HP.out _ hW) (Y.out _ hW) O.out);have HF:=za (fun W (hW:Ext j W)=>zaB (c:=f) (c':=f') (hd:=hd) (s:=x) (Y.out _ hW) (Nat.le_trans M.out oM));have HC:=za (fun W (hW:Ext j W) (lo hi:Nat) (A9:Option Addr) (n9 c9:Nat) (B9:Option Addr) (m9 d9:Nat) (h:zI W lo hi A9 n9 B9 m9 a)=>impl_CheckCertificate (c:=c) (d1:=d) (d1':=d') (c2:=c2) (d2:=c9) (d2':=d9) (hd:=hd) (x:=x) (HS.out _ hW) (HU.out _ hW) (HP.out _ hW) h O.out (S.out _ hW));have U:=za (show (zgt hd a x).length<=2000000 from by
  have h5:=M.out;unfold zgt;split
  ·cases hd
   ·simp only [Bool.false_eq_true,if_false,dL,zdz,eI,List.length_nil];unfold zfD;split
    ·simp
    ·have:x.data.toList.length=x.size:=rfl;omega
   ·have:=txtA_len a;simp only [if_true,dL,zds,eI,List.length_nil];omega
  ·simp)
 have L:=za (fun (y:ByteArray) (Q:y.data.toList=zgt hd a x) (hv:zC hd a x=true)=>show ParsC y true hd a x from .inl ⟨rfl,hv,Q.symm⟩);have J:=za (fun (y:ByteArray) (Q:y.data.toList=zgt hd a x) (hv:zC hd a x=false)=>pars_empty (x:=y) (by rw [Q,txtC_no hv]));generalize checkZ s t p hd a x=z at *;have k_b1:=b1.cell;have k_b2:=b2.cell;have k_b3:=b3.cell;have k_b4:=b4.cell;go_upto_region 99 with fail
 refine (HI.out _ hcur).mono (mQ fun w3 E=>?_);clear k_b1 k_b2 k_b3 k_b4;replace b1:=b1.ext E;replace b2:=b2.ext E;replace b3:=b3.ext E;replace b4:=b4.ext E;replace hcur:=hcur.trans E;have k_b1:=b1.cell;have k_b2:=b2.cell;have k_b3:=b3.cell;have k_b4:=b4.cell;go_upto_region 99 with fail
 refine (HF.out _ hcur).mono ?_;rintro e w4 ⟨y,rfl,Q,F⟩;clear k_b1 k_b2 k_b3 k_b4;replace b1:=b1.ext F;replace b2:=b2.ext F;replace b3:=b3.ext F;replace b4:=b4.ext F;replace hcur:=hcur.trans F;have ap:y.size<=2000000:=by rw [tx_size Q.out];exact U.out
 have k_b1:=b1.cell;have k_b2:=b2.cell;have k_b3:=b3.cell;have k_b4:=b4.cell;go_upto_region 99 with fail
 refine (impl_ParseCertificateX ap (Z.out _ hcur)).mono ?_;rintro e R ⟨ok,aF,a5,A5,n5,c5,B5,m5,d5,t5,rfl,I,H,i⟩;clear k_b1 k_b2 k_b3 k_b4;replace b1:=b1.ext i;replace b2:=b2.ext i;replace b3:=b3.ext i;replace b4:=b4.ext i;replace hcur:=hcur.trans i;have r5:=I.reads;clear I;cases hv:zC hd a x
 case false =>
  obtain⟨e1,e2,e3,e4⟩:=(J.out y Q.out hv).same H.out;subst e1;subst e2;subst e3;subst e4;clear L J H hv HC HF;have k_b1:=b1.cell;have k_b2:=b2.cell;have k_b3:=b3.cell;have k_b4:=b4.cell;go_upto_region 6 with fail
  clear k_b1 k_b2 k_b3 k_b4;have g:=(Ext.refl R).alloc (.cells #[.bool false,(0:Int),.slice A5 n5 c5,.slice B5 m5 d5,.string ⟨#[]⟩] 28);have T:=hcur.size;have l:=b1.lt;have o:=b2.lt;have r:=b3.lt;have u:=b4.lt;replace b1:=b1.ext g;replace b2:=b2.ext g;replace b3:=b3.ext g;replace b4:=b4.ext g;replace r5:=r5.ext g;replace hcur:=hcur.trans g;clear g;generalize U0:R.alloc _=w6 at *;have b5:=Ext.bl_ U0;clear U0;generalize R.heap.size=X at *;have k_b1:=b1.cell;have k_b2:=b2.cell;have k_b3:=b3.cell;have k_b4:=b4.cell;have k_b5:=b5.cell;go_upto_region 99 with fail
  refine (HR.out _ hcur).mono (mQ fun w7 b=>?_);clear k_b1 k_b2 k_b3 k_b4 k_b5;replace b1:=b1.ext b;replace b2:=b2.ext b;replace b3:=b3.ext b;replace b4:=b4.ext b;replace b5:=b5.ext b;replace r5:=r5.ext b;replace hcur:=hcur.trans b;have k_b1:=b1.cell;have k_b2:=b2.cell;have k_b3:=b3.cell;have k_b4:=b4.cell;have k_b5:=b5.cell;go_upto_region 99 with fail
  refine (HR.out _ hcur).mono ?_;exact yZLawCqa1
 case true =>
  obtain⟨e1,e2,e3,e4⟩:=(L.out y Q.out hv).same H.out;subst e1;subst e2;subst e3;subst e4;clear L J H hv HF;have k_b1:=b1.cell;have k_b2:=b2.cell;have k_b3:=b3.cell;have k_b4:=b4.cell;go_upto_region 6 with fail
  clear k_b1 k_b2 k_b3 k_b4;have g:=(Ext.refl R).alloc (.cells #[.bool hd,a.al,.slice A5 n5 c5,.slice B5 m5 d5,x] 28);have T:=hcur.size;have l:=b1.lt;have o:=b2.lt;have r:=b3.lt;have u:=b4.lt;replace b1:=b1.ext g;replace b2:=b2.ext g;replace b3:=b3.ext g;replace b4:=b4.ext g;replace r5:=r5.ext g;replace hcur:=hcur.trans g;clear g;generalize U0:R.alloc _=w6 at *;have b5:=Ext.bl_ U0;clear U0;generalize R.heap.size=X at *;have k_b1:=b1.cell;have k_b2:=b2.cell;have k_b3:=b3.cell;have k_b4:=b4.cell;have k_b5:=b5.cell;go_upto_region 99 with fail
  refine (HR.out _ hcur).mono (mQ fun w7 b=>?_);clear k_b1 k_b2 k_b3 k_b4 k_b5;replace b1:=b1.ext b;replace b2:=b2.ext b;replace b3:=b3.ext b;replace b4:=b4.ext b;replace b5:=b5.ext b;replace r5:=r5.ext b;replace hcur:=hcur.trans b;have k_b1:=b1.cell;have k_b2:=b2.cell;have k_b3:=b3.cell;have k_b4:=b4.cell;have k_b5:=b5.cell;go_upto_region 99 with fail
  refine (HC.out _ hcur _ _ _ _ c5 _ _ d5 r5).mono ?_;exact yZLawCqa1
end Go.Proofs.YtfcjhpodichpjaaGreatDoor
