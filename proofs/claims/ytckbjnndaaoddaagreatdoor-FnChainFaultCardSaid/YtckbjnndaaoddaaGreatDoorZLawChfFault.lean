/- The law FnCh -/
import Derived.Test.YtckbjnndaaoddaaGreatDoorF14
set_option maxHeartbeats 4000000
set_option maxRecDepth 100000
namespace Go.Proofs.YtckbjnndaaoddaaGreatDoor
open Go Go.RowKit
open Ext renaming refl->cY
theorem yZLawChfFaulta1 {P:Prop}(h:P:=by
 rw [hz] at HI HR;clear hz;go_upto_region 12 with (first
  |(go_at_call 22;with_reducible refine (HI.out _ hcur).mono (mQ fun wz hz=>?_);replace hcur:=hcur.trans hz;replace h2:=h2.trans hz;clear hz)
  |(go_at_call 24;with_reducible refine (HR.out _ hcur).mono (mQ fun wz hz=>?_);replace hcur:=hcur.trans hz;replace h2:=h2.trans hz;clear hz)
  |(go_at_call 23;with_reducible refine (HCL.out _ hcur).mono (mQ fun wz hz=>?_);replace hcur:=hcur.trans hz;replace h2:=h2.trans hz;clear hz)
  |(go_at_call 25;with_reducible refine (HVf.out _ hcur).mono (mQ fun wz hz=>?_);replace hcur:=hcur.trans hz;replace h2:=h2.trans hz;clear hz)
  |(go_at_call 25;with_reducible refine (HVu.out _ hcur).mono (mQ fun wz hz=>?_);replace hcur:=hcur.trans hz;replace h2:=h2.trans hz;clear hz))
 have hde:Ext w1 wz.drew:=hcur.drew;have hd2:Ext w2 wz.drew:=h2.drew;refine uR (fun X=>Ext w2 X) [16] (zv.of [0,1,2,3,4,5,6,7,8,9,10,11,12,13,14,15,16,17,18,19]) ?_;refine uQ ?_;generalize wz.drew=wd at *;refine zd fun K hK=>?_;go_simp;refine (HK1.out _ hde).mono (mQ fun wy hy=>?_);have hy2:=hd2.trans hy;have hy1:=hde.trans hy;refine hK.out _ _ hy2 ?_;refine pT ?_;refine uQ ?_;refine zb fun K hK=>?_;go_simp;refine (HK2.out _ hy1).mono (mQ fun wx hx=>?_);have hx2:=hy2.trans hx;have hx1':=hy1.trans hx;refine hK.out _ _ ?_;refine pT ?_;refine uQ ?_;refine ze ?_;go_upto_region 14 with fail
 have hde2:Ext w1 wx.drew:=hx1'.drew;have hd22:Ext w2 wx.drew:=hx2.drew;refine uR (fun X=>Ext w2 X) [5] (zv.of [0,1,2,3,4,5,6,7]) ?_;refine uQ ?_;generalize wx.drew=wd2 at *;refine zb fun K hK=>?_;go_simp;refine (HK3.out _ hde2).mono (mQ fun wv hv=>?_);refine hK.out _ _ ?_;refine pT ?_;refine uQ ?_;refine ze ?_;go_wp2_with fail
 go_ret;exact⟨zl sM,hx1.trans (hde2.trans hv)⟩
 ):P:=h
theorem yZLawChfFaultb1 {P:Prop}(h:P:=by
 go_wp2_with (first
  |(go_at_call 22;with_reducible refine (HI.out _ hcur).mono (mQ fun wz hz=>?_);replace hcur:=hcur.trans hz;replace h2:=h2.trans hz;clear hz)
  |(go_at_call 24;with_reducible refine (HR.out _ hcur).mono (mQ fun wz hz=>?_);replace hcur:=hcur.trans hz;replace h2:=h2.trans hz;clear hz)
  |(go_at_call 23;with_reducible refine (HCL.out _ hcur).mono (mQ fun wz hz=>?_);replace hcur:=hcur.trans hz;replace h2:=h2.trans hz;clear hz)
  |(go_at_call 25;with_reducible refine (HVf.out _ hcur).mono (mQ fun wz hz=>?_);replace hcur:=hcur.trans hz;replace h2:=h2.trans hz;clear hz)
  |(go_at_call 25;with_reducible refine (HVu.out _ hcur).mono (mQ fun wz hz=>?_);replace hcur:=hcur.trans hz;replace h2:=h2.trans hz;clear hz))
 go_ret;exact⟨zl sM,hx1.trans hcur⟩
 ):P:=h
theorem yZLawChfFaulta2 {P:Prop}(h:P:=by
 clear hE h4 hV h3;exact yZLawChfFaultb1
 ):P:=h
theorem law_ChainFault {A0:Option Addr} {n0 c0:Nat} {w:World}(h:Bytes w A0 n0)(hn:n0<=9223372036854775807)(hc:n0<=c0)(hc2:c0<=9223372036854775807)(hT:Tab w) :
  Calls Tryz.prog 4 #[.slice A0 n0 c0] w fun e w'=>e=.returned (.bool true)∧Ext w w':=by
 have Hh:=za h;have HT:=za (fun W (hW:Ext w W)=>hT.ext hW);clear h hT
 by_cases hbig:1048576<n0
 ·have i:(1048576:Int)<(n0:Int):=oM
  go_enter Tryz.func4,Tryz.ntmps4
  go_wp2;go_ret;exact⟨rfl,cY _⟩
 have i:(n0:Int)<=1048576:=oM;clear hbig
 go_enter Tryz.func4,Tryz.ntmps4
 go_upto_region 4 with (first
  |(go_at_call 21;refine (spec_DrawChainFault Hh.out hn hc hc2).mono ?_;rintro e w1 ⟨l,k,g,c,p,A,n,H,A',n',I,f,B,m,d,B',m',d',u,C,q,D,C',q',b,hl,hk,aX,rfl,L,⟨hp,hf,hu⟩,aV,-,hx1⟩))
 clear i hn hc hc2;obtain⟨v,aj⟩:∃ v,Hid (l.map Ent.s=v):=⟨_,rfl⟩;rw [aj.out] at L;have E:=za (fun W (hW:Ext w1 W)=>L.ext hW);have HP:=za (fun W (hW:Ext w1 W)=>hp.ext hW);have M:=za (fun W (hW:Ext w1 W)=>hf.ext hW);have O:=za (fun W (hW:Ext w1 W)=>hu.ext hW);have o:=za (fun W (hW:Ext w1 W)=>HT.out W (hx1.trans hW));have hcur:Ext w1 ((w1.alloc (.cells #[p.al,.slice A n H,.slice A' n' I] 27)).alloc (.cells #[f.al,.slice B m d,.slice B' m' d',u.al,.slice C q D,.slice C' q' b] 31)):=((cY _).alloc _).alloc _;obtain⟨b1,b2⟩:=zS (cY ((w1.alloc (.cells #[p.al,.slice A n H,.slice A' n' I] 27)).alloc (.cells #[f.al,.slice B m d,.slice B' m' d',u.al,.slice C q D,.slice C' q' b] 31)));clear L hp hf hu Hh HT;obtain⟨w2,S⟩:∃ w2,w2=(w1.alloc (.cells #[p.al,.slice A n H,.slice A' n' I] 27)).alloc (.cells #[f.al,.slice B m d,.slice B' m' d',u.al,.slice C q D,.slice C' q' b] 31):=⟨_,rfl⟩;rw [← S] at hcur b1 b2 ⊢;clear S;generalize w1.heap.size=G at *;have cP:=b1.cells;have cC:=b2.cells;have h2:=cY w2;clear b1 b2;have HI:=za (fun W (hW:Ext w1 W)=>impl_ChainFault (c:=c) (d1:=H) (d1':=I) (d2:=d) (d2':=d') (d3:=D) (d3':=b) (E.out _ hW) (HP.out _ hW) (M.out _ hW) (O.out _ hW) (o.out _ hW));have HR:=za (fun W (hW:Ext w1 W)=>spec_ChainFault (c:=c) (d1:=H) (d1':=I) (d2:=d) (d2':=d') (d3:=D) (d3':=b) (E.out _ hW) (HP.out _ hW) (M.out _ hW) (O.out _ hW));have HCL:=za (fun W (hW:Ext w1 W)=>zeR (c:=c) (d:=H) (d':=I) (E.out _ hW) (HP.out _ hW));have HVf:=za (fun W (hW:Ext w1 W)=>zy _ _ _ _ d _ _ d' _ _ (M.out _ hW));have HVu:=za (fun W (hW:Ext w1 W)=>zy _ _ _ _ D _ _ b _ _ (O.out _ hW));obtain⟨Z,t⟩:∃ Z:Int,Hid (zaM v p=Z):=⟨_,rfl⟩;rw [t.out] at HCL;cases h3:three v p
 case false =>
  have hz:zaC v p f u=1:=by unfold zaC;rw [h3];rfl
  have Q:zW v p = -1:=by unfold zW;rw [h3];rfl
  rw [hz] at HI HR;rw [Q] at HCL;clear hz Q h3;go_wp2_with (first
   |(go_at_call 22;with_reducible refine (HI.out _ hcur).mono (mQ fun wz hz=>?_);replace hcur:=hcur.trans hz;replace h2:=h2.trans hz;clear hz)
   |(go_at_call 24;with_reducible refine (HR.out _ hcur).mono (mQ fun wz hz=>?_);replace hcur:=hcur.trans hz;replace h2:=h2.trans hz;clear hz)
   |(go_at_call 23;with_reducible refine (HCL.out _ hcur).mono (mQ fun wz hz=>?_);replace hcur:=hcur.trans hz;replace h2:=h2.trans hz;clear hz))
  go_ret;exact⟨zl sM,hx1.trans hcur⟩
 case true =>
  obtain⟨j,J,R⟩:∃ j:Int,zW v p=j∧0<=j:=by
   obtain⟨x,y,z,rfl⟩:=zbw h3;obtain⟨q1,ai,-⟩:=zca h3;exact⟨q1,ai,oM⟩
  have aA:¬ j<0:=oM;have F:=za J;rw [J] at HCL;clear J
  by_cases hV:(zh f&&zh u)=true
  case neg =>
   have hz:zaC v p f u=1:=by
    unfold zaC;rw [h3,if_pos];simpa using hV
   rw [hz] at HI HR;clear hz;cases hvf:zh f
   ·rw [hvf] at HVf;clear HVu hvf hV h3;go_wp2_with (first
     |(go_at_call 22;with_reducible refine (HI.out _ hcur).mono (mQ fun wz hz=>?_);replace hcur:=hcur.trans hz;replace h2:=h2.trans hz;clear hz)
     |(go_at_call 24;with_reducible refine (HR.out _ hcur).mono (mQ fun wz hz=>?_);replace hcur:=hcur.trans hz;replace h2:=h2.trans hz;clear hz)
     |(go_at_call 23;with_reducible refine (HCL.out _ hcur).mono (mQ fun wz hz=>?_);replace hcur:=hcur.trans hz;replace h2:=h2.trans hz;clear hz)
     |(go_at_call 25;with_reducible refine (HVf.out _ hcur).mono (mQ fun wz hz=>?_);replace hcur:=hcur.trans hz;replace h2:=h2.trans hz;clear hz))
    go_ret;exact⟨zl sM,hx1.trans hcur⟩
   ·cases hvu:zh u
    ·rw [hvf] at HVf;rw [hvu] at HVu;clear hvf hvu hV h3;exact yZLawChfFaultb1
    ·rw [hvf,hvu] at hV;exact absurd rfl hV
  case pos =>
   have r:=hV;simp only [Bool.and_eq_true] at r;rw [r.1] at HVf;rw [r.2] at HVu;clear r
   by_cases hE:f.al=j∧u.al=Z
   case neg =>
    have hz:zaC v p f u=2:=by
     unfold zaC;rw [h3,hV,if_neg dM,if_pos];rw [F.out,t.out];simp only [Bool.and_eq_false_iff,decide_eq_false_iff_not]
     by_cases h4:f.al=j
     ·exact .inr fun h5=>hE ⟨h4,h5⟩
     ·exact .inl h4
    rw [hz] at HI HR;clear hz
    by_cases h4:f.al=j
    ·have e0:(f.al != j)=false:=by simp [h4]
     have e2:(u.al != Z)=true:=by simpa using fun h5=>hE ⟨h4,h5⟩
     exact yZLawChfFaulta2
    ·have e0:(f.al != j)=true:=by simpa using h4
     exact yZLawChfFaulta2
   case pos =>
    have e0:(f.al != j)=false:=by simp [hE.1]
    have e2:(u.al != Z)=false:=by simp [hE.2]
    obtain⟨x,y,z,U⟩:=zbw h3;subst U;obtain rfl:k=3:=(E.out w1 (cY _)).1;obtain⟨Bx,an,cx,q0,q1,q2,T⟩:=(E.out w1 (cY _)).ar (k:=0) (s:=x) rfl;obtain⟨By,ny,cy,r0,r1,r2,V⟩:=(E.out w1 (cY _)).ar (k:=1) (s:=y) rfl;obtain⟨Bz,nz,cz,s0,s1,s2,Y⟩:=(E.out w1 (cY _)).ar (k:=2) (s:=z) rfl;have aU:∀ W,Ext w2 W->W.cell? g=some (.int .i64 x.al)∧W.cell? ⟨g,1,none⟩=some (.int .i64 x.st)∧W.cell? ⟨g,2,none⟩=some (.slice Bx an cx)∧W.cell? ⟨g,3,none⟩=some (.int .i64 y.al)∧W.cell? ⟨g,4,none⟩=some (.int .i64 y.st)∧W.cell? ⟨g,5,none⟩=some (.slice By ny cy)∧W.cell? ⟨g,6,none⟩=some (.int .i64 z.al)∧W.cell? ⟨g,7,none⟩=some (.int .i64 z.st)∧W.cell? ⟨g,8,none⟩=some (.slice Bz nz cz):=fun W hW=>by
     have a:=hcur.trans hW;exact⟨a.aa (by simpa using q0),a.aa (by simpa using q1),a.aa (by simpa using q2),a.aa (by simpa using r0),a.aa (by simpa using r1),a.aa (by simpa using r2),a.aa (by simpa using s0),a.aa (by simpa using s1),a.aa (by simpa using s2)⟩
    clear q0 q1 q2 r0 r1 r2 s0 s1 s2;have HX:=za (fun W (hW:Ext w1 W)=>T.ext hW);have HY:=za (fun W (hW:Ext w1 W)=>V.ext hW);have HZ:=za (fun W (hW:Ext w1 W)=>Y.ext hW);clear T V Y;have hz:zaC [x,y,z] p f u=if (zaz x f p&&zaz y u f)=false then 3 else if zat [z] u=false then 4 else 0:=by
     unfold zaC;rw [h3,hV,if_neg dM,F.out,t.out,if_neg];rw [decide_eq_true hE.1,decide_eq_true hE.2];decide
    have HK1:=za (fun W (hW:Ext w1 W)=>zce (c:=cx) (d1:=d) (d1':=d') (d2:=H) (d2':=I) (HX.out _ hW) (M.out _ hW) (HP.out _ hW) (o.out _ hW));have HK2:=za (fun W (hW:Ext w1 W)=>zce (c:=cy) (d1:=D) (d1':=b) (d2:=d) (d2':=d') (HY.out _ hW) (O.out _ hW) (M.out _ hW) (o.out _ hW));have HK3:=za (fun W (hW:Ext w1 W)=>zcn (c:=cz) (d2:=D) (d2':=b) (HZ.out _ hW) (O.out _ hW) (o.out _ hW));rw [hz] at HI HR;clear hz hE hV h3 F t R hk;generalize zaz x f p=u1 at *;generalize zaz y u f=u2 at *;generalize zat [z] u=u3 at *;have az:(3:Int)<=(c:Int):=oM;cases u1
    ·have hz:(if (false&&u2)=false then (3:Int) else if u3=false then 4 else 0)=3:=rfl;rw [hz] at HI HR;clear hz;go_upto_region 12 with (first
      |(go_at_call 22;with_reducible refine (HI.out _ hcur).mono (mQ fun wz hz=>?_);replace hcur:=hcur.trans hz;replace h2:=h2.trans hz;clear hz)
      |(go_at_call 24;with_reducible refine (HR.out _ hcur).mono (mQ fun wz hz=>?_);replace hcur:=hcur.trans hz;replace h2:=h2.trans hz;clear hz)
      |(go_at_call 23;with_reducible refine (HCL.out _ hcur).mono (mQ fun wz hz=>?_);replace hcur:=hcur.trans hz;replace h2:=h2.trans hz;clear hz)
      |(go_at_call 25;with_reducible refine (HVf.out _ hcur).mono (mQ fun wz hz=>?_);replace hcur:=hcur.trans hz;replace h2:=h2.trans hz;clear hz)
      |(go_at_call 25;with_reducible refine (HVu.out _ hcur).mono (mQ fun wz hz=>?_);replace hcur:=hcur.trans hz;replace h2:=h2.trans hz;clear hz))
     have hde:Ext w1 wz.drew:=hcur.drew;have hd2:Ext w2 wz.drew:=h2.drew;refine uR (fun X=>Ext w2 X) [16] (zv.of [0,1,2,3,4,5,6,7,8,9,10,11,12,13,14,15,16,17,18,19]) ?_;refine uQ ?_;generalize wz.drew=wd at *;refine zd fun K hK=>?_;go_simp;refine (HK1.out _ hde).mono (mQ fun wy hy=>?_);have hy2:=hd2.trans hy;have hy1:=hde.trans hy;refine hK.out _ _ hy2 ?_;refine pT ?_;refine uQ ?_;refine ze ?_;go_wp2_with fail
     go_ret;exact⟨zl sM,hx1.trans hy1⟩
    ·cases u2
     ·have hz:(if (true&&false)=false then (3:Int) else if u3=false then 4 else 0)=3:=rfl;rw [hz] at HI HR;clear hz;go_upto_region 12 with (first
       |(go_at_call 22;with_reducible refine (HI.out _ hcur).mono (mQ fun wz hz=>?_);replace hcur:=hcur.trans hz;replace h2:=h2.trans hz;clear hz)
       |(go_at_call 24;with_reducible refine (HR.out _ hcur).mono (mQ fun wz hz=>?_);replace hcur:=hcur.trans hz;replace h2:=h2.trans hz;clear hz)
       |(go_at_call 23;with_reducible refine (HCL.out _ hcur).mono (mQ fun wz hz=>?_);replace hcur:=hcur.trans hz;replace h2:=h2.trans hz;clear hz)
       |(go_at_call 25;with_reducible refine (HVf.out _ hcur).mono (mQ fun wz hz=>?_);replace hcur:=hcur.trans hz;replace h2:=h2.trans hz;clear hz)
       |(go_at_call 25;with_reducible refine (HVu.out _ hcur).mono (mQ fun wz hz=>?_);replace hcur:=hcur.trans hz;replace h2:=h2.trans hz;clear hz))
      have hde:Ext w1 wz.drew:=hcur.drew;have hd2:Ext w2 wz.drew:=h2.drew;refine uR (fun X=>Ext w2 X) [16] (zv.of [0,1,2,3,4,5,6,7,8,9,10,11,12,13,14,15,16,17,18,19]) ?_;refine uQ ?_;generalize wz.drew=wd at *;refine zd fun K hK=>?_;go_simp;refine (HK1.out _ hde).mono (mQ fun wy hy=>?_);have hy2:=hd2.trans hy;have hy1:=hde.trans hy;refine hK.out _ _ hy2 ?_;refine pT ?_;refine uQ ?_;refine zb fun K hK=>?_;go_simp;refine (HK2.out _ hy1).mono (mQ fun wx hx=>?_);have hx2:=hy2.trans hx;have hx1':=hy1.trans hx;refine hK.out _ _ ?_;refine pT ?_;refine uQ ?_;refine ze ?_;go_wp2_with fail
      go_ret;exact⟨zl sM,hx1.trans hx1'⟩
     ·cases u3
      ·have hz:(if (true&&true)=false then (3:Int) else if false=false then 4 else 0)=4:=rfl;exact yZLawChfFaulta1
      ·have hz:(if (true&&true)=false then (3:Int) else if true=false then 4 else 0)=0:=rfl;exact yZLawChfFaulta1
end Go.Proofs.YtckbjnndaaoddaaGreatDoor
