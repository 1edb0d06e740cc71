/- The law FnChainFault, walked: it answers true, and leaves all old memory as it was; printed by gen_lawchf.py. -/
import Derived.Test.YtndhahednhnnbaaGreatDoorH14
import Derived.Test.YtndhahednhnnbaaGreatDoorH08
import Derived.Test.YtndhahednhnnbaaGreatDoorH07
namespace Go.Proofs.YtndhahednhnnbaaGreatDoor
open Go Go.RowKit
set_option maxHeartbeats 4000000
theorem yZLawChfFaulta1 {P:Prop}(h:P:=by
 rw [hz] at HI HR
 clear hz
 go_upto_region 12 with (first
  |(go_at_call 16;with_reducible refine (HI.out _ hcur).mono ?_;rintro e wz ⟨rfl,hz⟩;replace hcur:=hcur.trans hz;replace h2:=h2.trans hz;clear hz)
  |(go_at_call 18;with_reducible refine (HR.out _ hcur).mono ?_;rintro e wz ⟨rfl,hz⟩;replace hcur:=hcur.trans hz;replace h2:=h2.trans hz;clear hz)
  |(go_at_call 17;with_reducible refine (HCL.out _ hcur).mono ?_;rintro e wz ⟨rfl,hz⟩;replace hcur:=hcur.trans hz;replace h2:=h2.trans hz;clear hz)
  |(go_at_call 19;with_reducible refine (HVf.out _ hcur).mono ?_;rintro e wz ⟨rfl,hz⟩;replace hcur:=hcur.trans hz;replace h2:=h2.trans hz;clear hz)
  |(go_at_call 19;with_reducible refine (HVu.out _ hcur).mono ?_;rintro e wz ⟨rfl,hz⟩;replace hcur:=hcur.trans hz;replace h2:=h2.trans hz;clear hz))
 have hde:Ext w1 wz.drew:=hcur.drew
 have hd2:Ext w2 wz.drew:=h2.drew
 refine uR (fun X=>Ext w2 X) [16] (OrdU.of [0,1,2,3,4,5,6,7,8,9,10,11,12,13,14,15,16,17,18,19]) ?_
 refine uQ ?_
 generalize wz.drew=wd at *
 (refine zb rfl rfl rfl (fun K hK=>?_);go_simp)
 refine (HK1.out _ hde).mono ?_
 rintro e wy ⟨rfl,hy⟩
 have hy2:Ext w2 wy:=hd2.trans hy
 have hy1:Ext w1 wy:=hde.trans hy
 refine hK.out _ _ hy2 ?_
 refine pT ?_
 refine uQ ?_
 (refine za rfl rfl rfl rfl (fun K hK=>?_))
 go_simp
 refine (HK2.out _ hy1).mono ?_
 rintro e wx ⟨rfl,hx⟩
 have hx2:Ext w2 wx:=hy2.trans hx
 have hx1':Ext w1 wx:=hy1.trans hx
 refine hK.out _ _ ?_
 refine pT ?_
 refine uQ ?_
 refine zd ?_
 go_upto_region 14 with fail
 have hde2:Ext w1 wx.drew:=hx1'.drew
 have hd22:Ext w2 wx.drew:=hx2.drew
 refine uR (fun X=>Ext w2 X) [5] (OrdU.of [0,1,2,3,4,5,6,7]) ?_
 refine uQ ?_
 generalize wx.drew=wd2 at *
 (refine za rfl rfl rfl rfl (fun K hK=>?_))
 go_simp
 refine (HK3.out _ hde2).mono ?_
 rintro e wv ⟨rfl,hv⟩
 refine hK.out _ _ ?_
 refine pT ?_
 refine uQ ?_
 refine zd ?_
 go_wp2_with fail
 go_ret
 exact⟨zk (by simp),hx1.trans (hde2.trans hv)⟩
 ):P:=h
theorem yZLawChfFaultb1 {P:Prop}(h:P:=by
 go_wp2_with (first
  |(go_at_call 16;with_reducible refine (HI.out _ hcur).mono ?_;rintro e wz ⟨rfl,hz⟩;replace hcur:=hcur.trans hz;replace h2:=h2.trans hz;clear hz)
  |(go_at_call 18;with_reducible refine (HR.out _ hcur).mono ?_;rintro e wz ⟨rfl,hz⟩;replace hcur:=hcur.trans hz;replace h2:=h2.trans hz;clear hz)
  |(go_at_call 17;with_reducible refine (HCL.out _ hcur).mono ?_;rintro e wz ⟨rfl,hz⟩;replace hcur:=hcur.trans hz;replace h2:=h2.trans hz;clear hz)
  |(go_at_call 19;with_reducible refine (HVf.out _ hcur).mono ?_;rintro e wz ⟨rfl,hz⟩;replace hcur:=hcur.trans hz;replace h2:=h2.trans hz;clear hz)
  |(go_at_call 19;with_reducible refine (HVu.out _ hcur).mono ?_;rintro e wz ⟨rfl,hz⟩;replace hcur:=hcur.trans hz;replace h2:=h2.trans hz;clear hz))
 go_ret
 exact⟨zk (by simp),hx1.trans hcur⟩
 ):P:=h
theorem yZLawChfFaulta2 {P:Prop}(h:P:=by
 clear hE h4 hV h3
 exact yZLawChfFaultb1
 ):P:=h
set_option maxRecDepth 100000 in
theorem law_ChainFault {A0:Option Addr} {n0 c0:Nat} {w:World}(h:Bytes w A0 n0)(hn:n0≤9223372036854775807)(hc:n0≤c0)(hc2:c0≤9223372036854775807)(hT:Tab w) :
  Calls Tryz.prog 3 #[.slice A0 n0 c0] w fun e w'=>e=.returned (.bool true)∧Ext w w':=by
 have Hh:=hide h
 have HT:=hide (fun W (hW:Ext w W)=>hT.ext hW)
 clear h hT
 by_cases hbig:1048576<n0
 ·have hbig':(1048576:Int)<(n0:Int):=by omega
  go_enter Tryz.func3,Tryz.ntmps3
  go_wp2
  go_ret
  exact⟨rfl,Ext.refl _⟩
 have hbig':(n0:Int)≤1048576:=by omega
 clear hbig
 go_enter Tryz.func3,Tryz.ntmps3
 go_upto_region 4 with (first
  |(go_at_call 15;refine (spec_DrawChainFault Hh.out hn hc hc2).mono ?_;rintro e w1 ⟨l,k,g,c,p,A,n,c1,A',n',c2,f,B,m,d,B',m',d',u,C,q,e1,C',q',e1',hl,hk,hkc,rfl,hsl,⟨hp,hf,hu⟩,hdl,-,hx1⟩))
 clear hbig' hn hc hc2
 obtain⟨ss,hss⟩:∃ ss,Hid (l.map Ent.s=ss):=⟨_,rfl⟩
 rw [hss.out] at hsl
 have HS:=hide (fun W (hW:Ext w1 W)=>hsl.ext hW)
 have HP:=hide (fun W (hW:Ext w1 W)=>hp.ext hW)
 have HF:=hide (fun W (hW:Ext w1 W)=>hf.ext hW)
 have HU:=hide (fun W (hW:Ext w1 W)=>hu.ext hW)
 have HTw:=hide (fun W (hW:Ext w1 W)=>HT.out W (hx1.trans hW))
 have hcur:Ext w1 ((w1.alloc (.cells #[.int .i64 p.al,.slice A n c1,.slice A' n' c2] 27)).alloc (.cells #[.int .i64 f.al,.slice B m d,.slice B' m' d',.int .i64 u.al,.slice C q e1,.slice C' q' e1'] 29)):=((Ext.refl _).alloc _).alloc _
 obtain⟨b1,b2⟩:=zR (Ext.refl ((w1.alloc (.cells #[.int .i64 p.al,.slice A n c1,.slice A' n' c2] 27)).alloc (.cells #[.int .i64 f.al,.slice B m d,.slice B' m' d',.int .i64 u.al,.slice C q e1,.slice C' q' e1'] 29)))
 clear hsl hp hf hu Hh HT
 obtain⟨w2,hw2⟩:∃ w2,w2=(w1.alloc (.cells #[.int .i64 p.al,.slice A n c1,.slice A' n' c2] 27)).alloc (.cells #[.int .i64 f.al,.slice B m d,.slice B' m' d',.int .i64 u.al,.slice C q e1,.slice C' q' e1'] 29):=⟨_,rfl⟩
 rw [← hw2] at hcur b1 b2 ⊢
 clear hw2
 generalize w1.heap.size=G at *
 have cP:=b1.cells
 have cC:=b2.cells
 have h2:=Ext.refl w2
 clear b1 b2
 have HI:=hide (fun W (hW:Ext w1 W)=>impl_ChainFault (c:=c) (d1:=c1) (d1':=c2) (d2:=d) (d2':=d') (d3:=e1) (d3':=e1') (HS.out _ hW) (HP.out _ hW) (HF.out _ hW) (HU.out _ hW) (HTw.out _ hW))
 have HR:=hide (fun W (hW:Ext w1 W)=>spec_ChainFault (c:=c) (d1:=c1) (d1':=c2) (d2:=d) (d2':=d') (d3:=e1) (d3':=e1') (HS.out _ hW) (HP.out _ hW) (HF.out _ hW) (HU.out _ hW))
 have HCL:=hide (fun W (hW:Ext w1 W)=>zeA (c:=c) (d:=c1) (d':=c2) (HS.out _ hW) (HP.out _ hW))
 have HVf:=hide (fun W (hW:Ext w1 W)=>zw _ _ _ _ d _ _ d' _ _ (HF.out _ hW))
 have HVu:=hide (fun W (hW:Ext w1 W)=>zw _ _ _ _ e1 _ _ e1' _ _ (HU.out _ hW))
 obtain⟨n2,hn2⟩:∃ n2:Int,Hid (zaK ss p=n2):=⟨_,rfl⟩
 rw [hn2.out] at HCL
 cases h3:three ss p
 case false =>
  have hz:zaA ss p f u=1:=by unfold zaA;rw [h3];rfl
  have hc1:zV ss p = -1:=by unfold zV;rw [h3];rfl
  rw [hz] at HI HR
  rw [hc1] at HCL
  clear hz hc1 h3
  go_wp2_with (first
   |(go_at_call 16;with_reducible refine (HI.out _ hcur).mono ?_;rintro e wz ⟨rfl,hz⟩;replace hcur:=hcur.trans hz;replace h2:=h2.trans hz;clear hz)
   |(go_at_call 18;with_reducible refine (HR.out _ hcur).mono ?_;rintro e wz ⟨rfl,hz⟩;replace hcur:=hcur.trans hz;replace h2:=h2.trans hz;clear hz)
   |(go_at_call 17;with_reducible refine (HCL.out _ hcur).mono ?_;rintro e wz ⟨rfl,hz⟩;replace hcur:=hcur.trans hz;replace h2:=h2.trans hz;clear hz))
  go_ret
  exact⟨zk (by simp),hx1.trans hcur⟩
 case true =>
  obtain⟨n1,hn1,hn1b⟩:∃ n1:Int,zV ss p=n1∧0≤n1:=by
   obtain⟨x,y,z,rfl⟩:=zbq h3
   obtain⟨q1,hq1,-⟩:=zbR h3
   exact⟨q1,hq1,by omega⟩
  have hneg:¬ n1<0:=by omega
  have Hn1:=hide hn1
  rw [hn1] at HCL
  clear hn1
  by_cases hV:(zg f&&zg u)=true
  case neg =>
   have hz:zaA ss p f u=1:=by
    unfold zaA
    rw [h3,if_pos]
    simpa using hV
   rw [hz] at HI HR
   clear hz
   cases hvf:zg f
   ·rw [hvf] at HVf
    clear HVu hvf hV h3
    go_wp2_with (first
     |(go_at_call 16;with_reducible refine (HI.out _ hcur).mono ?_;rintro e wz ⟨rfl,hz⟩;replace hcur:=hcur.trans hz;replace h2:=h2.trans hz;clear hz)
     |(go_at_call 18;with_reducible refine (HR.out _ hcur).mono ?_;rintro e wz ⟨rfl,hz⟩;replace hcur:=hcur.trans hz;replace h2:=h2.trans hz;clear hz)
     |(go_at_call 17;with_reducible refine (HCL.out _ hcur).mono ?_;rintro e wz ⟨rfl,hz⟩;replace hcur:=hcur.trans hz;replace h2:=h2.trans hz;clear hz)
     |(go_at_call 19;with_reducible refine (HVf.out _ hcur).mono ?_;rintro e wz ⟨rfl,hz⟩;replace hcur:=hcur.trans hz;replace h2:=h2.trans hz;clear hz))
    go_ret
    exact⟨zk (by simp),hx1.trans hcur⟩
   ·cases hvu:zg u
    ·rw [hvf] at HVf
     rw [hvu] at HVu
     clear hvf hvu hV h3
     exact yZLawChfFaultb1
    ·rw [hvf,hvu] at hV
     exact absurd rfl hV
  case pos =>
   have hV2:=hV
   simp only [Bool.and_eq_true] at hV2
   rw [hV2.1] at HVf
   rw [hV2.2] at HVu
   clear hV2
   by_cases hE:f.al=n1∧u.al=n2
   case neg =>
    have hz:zaA ss p f u=2:=by
     unfold zaA
     rw [h3,hV,if_neg (by decide),if_pos]
     rw [Hn1.out,hn2.out]
     simp only [Bool.and_eq_false_iff,decide_eq_false_iff_not]
     by_cases h4:f.al=n1
     ·exact .inr fun h5=>hE ⟨h4,h5⟩
     ·exact .inl h4
    rw [hz] at HI HR
    clear hz
    by_cases h4:f.al=n1
    ·have e0:(f.al != n1)=false:=by simp [h4]
     have e2:(u.al != n2)=true:=by simpa using fun h5=>hE ⟨h4,h5⟩
     exact yZLawChfFaulta2
    ·have e0:(f.al != n1)=true:=by simpa using h4
     exact yZLawChfFaulta2
   case pos =>
    have e0:(f.al != n1)=false:=by simp [hE.1]
    have e2:(u.al != n2)=false:=by simp [hE.2]
    obtain⟨x,y,z,hxyz⟩:=zbq h3
    subst hxyz
    obtain rfl:k=3:=(HS.out w1 (Ext.refl _)).1
    obtain⟨Bx,nx_,cx,q0,q1,q2,hxs⟩:=(HS.out w1 (Ext.refl _)).sys2 (k:=0) (s:=x) rfl
    obtain⟨By,ny,cy,r0,r1,r2,hys⟩:=(HS.out w1 (Ext.refl _)).sys2 (k:=1) (s:=y) rfl
    obtain⟨Bz,nz,cz,s0,s1,s2,hzs⟩:=(HS.out w1 (Ext.refl _)).sys2 (k:=2) (s:=z) rfl
    have hcx:∀ W,Ext w2 W→W.cell? ⟨g,0,none⟩=some (.int .i64 x.al)∧W.cell? ⟨g,1,none⟩=some (.int .i64 x.st)∧W.cell? ⟨g,2,none⟩=some (.slice Bx nx_ cx)∧W.cell? ⟨g,3,none⟩=some (.int .i64 y.al)∧W.cell? ⟨g,4,none⟩=some (.int .i64 y.st)∧W.cell? ⟨g,5,none⟩=some (.slice By ny cy)∧W.cell? ⟨g,6,none⟩=some (.int .i64 z.al)∧W.cell? ⟨g,7,none⟩=some (.int .i64 z.st)∧W.cell? ⟨g,8,none⟩=some (.slice Bz nz cz):=fun W hW=>by
     have hW1:=hcur.trans hW
     exact⟨hW1.cell_some (by simpa using q0),hW1.cell_some (by simpa using q1),hW1.cell_some (by simpa using q2),hW1.cell_some (by simpa using r0),hW1.cell_some (by simpa using r1),hW1.cell_some (by simpa using r2),hW1.cell_some (by simpa using s0),hW1.cell_some (by simpa using s1),hW1.cell_some (by simpa using s2)⟩
    clear q0 q1 q2 r0 r1 r2 s0 s1 s2
    have HX:=hide (fun W (hW:Ext w1 W)=>hxs.ext hW)
    have HY:=hide (fun W (hW:Ext w1 W)=>hys.ext hW)
    have HZ:=hide (fun W (hW:Ext w1 W)=>hzs.ext hW)
    clear hxs hys hzs
    have hz:zaA [x,y,z] p f u=if (zax x f p&&zax y u f)=false then 3 else if zar [z] u=false then 4 else 0:=by
     unfold zaA
     rw [h3,hV,if_neg (by decide),Hn1.out,hn2.out,if_neg]
     rw [decide_eq_true hE.1,decide_eq_true hE.2]
     decide
    have HK1:=hide (fun W (hW:Ext w1 W)=>zbU (c:=cx) (d1:=d) (d1':=d') (d2:=c1) (d2':=c2) (HX.out _ hW) (HF.out _ hW) (HP.out _ hW) (HTw.out _ hW))
    have HK2:=hide (fun W (hW:Ext w1 W)=>zbU (c:=cy) (d1:=e1) (d1':=e1') (d2:=d) (d2':=d') (HY.out _ hW) (HU.out _ hW) (HF.out _ hW) (HTw.out _ hW))
    have HK3:=hide (fun W (hW:Ext w1 W)=>zcb (c:=cz) (d2:=e1) (d2':=e1') (HZ.out _ hW) (HU.out _ hW) (HTw.out _ hW))
    rw [hz] at HI HR
    clear hz hE hV h3 Hn1 hn2 hn1b hk
    generalize zax x f p=u1 at *
    generalize zax y u f=u2 at *
    generalize zar [z] u=u3 at *
    have hkc3:(3:Int)≤(c:Int):=by omega
    cases u1
    ·have hz:(if (false&&u2)=false then (3:Int) else if u3=false then 4 else 0)=3:=rfl
     rw [hz] at HI HR
     clear hz
     go_upto_region 12 with (first
      |(go_at_call 16;with_reducible refine (HI.out _ hcur).mono ?_;rintro e wz ⟨rfl,hz⟩;replace hcur:=hcur.trans hz;replace h2:=h2.trans hz;clear hz)
      |(go_at_call 18;with_reducible refine (HR.out _ hcur).mono ?_;rintro e wz ⟨rfl,hz⟩;replace hcur:=hcur.trans hz;replace h2:=h2.trans hz;clear hz)
      |(go_at_call 17;with_reducible refine (HCL.out _ hcur).mono ?_;rintro e wz ⟨rfl,hz⟩;replace hcur:=hcur.trans hz;replace h2:=h2.trans hz;clear hz)
      |(go_at_call 19;with_reducible refine (HVf.out _ hcur).mono ?_;rintro e wz ⟨rfl,hz⟩;replace hcur:=hcur.trans hz;replace h2:=h2.trans hz;clear hz)
      |(go_at_call 19;with_reducible refine (HVu.out _ hcur).mono ?_;rintro e wz ⟨rfl,hz⟩;replace hcur:=hcur.trans hz;replace h2:=h2.trans hz;clear hz))
     have hde:Ext w1 wz.drew:=hcur.drew
     have hd2:Ext w2 wz.drew:=h2.drew
     refine uR (fun X=>Ext w2 X) [16] (OrdU.of [0,1,2,3,4,5,6,7,8,9,10,11,12,13,14,15,16,17,18,19]) ?_
     refine uQ ?_
     generalize wz.drew=wd at *
     (refine zb rfl rfl rfl (fun K hK=>?_);go_simp)
     refine (HK1.out _ hde).mono ?_
     rintro e wy ⟨rfl,hy⟩
     have hy2:Ext w2 wy:=hd2.trans hy
     have hy1:Ext w1 wy:=hde.trans hy
     refine hK.out _ _ hy2 ?_
     refine pT ?_
     refine uQ ?_
     refine zd ?_
     go_wp2_with fail
     go_ret
     exact⟨zk (by simp),hx1.trans hy1⟩
    ·cases u2
     ·have hz:(if (true&&false)=false then (3:Int) else if u3=false then 4 else 0)=3:=rfl
      rw [hz] at HI HR
      clear hz
      go_upto_region 12 with (first
       |(go_at_call 16;with_reducible refine (HI.out _ hcur).mono ?_;rintro e wz ⟨rfl,hz⟩;replace hcur:=hcur.trans hz;replace h2:=h2.trans hz;clear hz)
       |(go_at_call 18;with_reducible refine (HR.out _ hcur).mono ?_;rintro e wz ⟨rfl,hz⟩;replace hcur:=hcur.trans hz;replace h2:=h2.trans hz;clear hz)
       |(go_at_call 17;with_reducible refine (HCL.out _ hcur).mono ?_;rintro e wz ⟨rfl,hz⟩;replace hcur:=hcur.trans hz;replace h2:=h2.trans hz;clear hz)
       |(go_at_call 19;with_reducible refine (HVf.out _ hcur).mono ?_;rintro e wz ⟨rfl,hz⟩;replace hcur:=hcur.trans hz;replace h2:=h2.trans hz;clear hz)
       |(go_at_call 19;with_reducible refine (HVu.out _ hcur).mono ?_;rintro e wz ⟨rfl,hz⟩;replace hcur:=hcur.trans hz;replace h2:=h2.trans hz;clear hz))
      have hde:Ext w1 wz.drew:=hcur.drew
      have hd2:Ext w2 wz.drew:=h2.drew
      refine uR (fun X=>Ext w2 X) [16] (OrdU.of [0,1,2,3,4,5,6,7,8,9,10,11,12,13,14,15,16,17,18,19]) ?_
      refine uQ ?_
      generalize wz.drew=wd at *
      (refine zb rfl rfl rfl (fun K hK=>?_);go_simp)
      refine (HK1.out _ hde).mono ?_
      rintro e wy ⟨rfl,hy⟩
      have hy2:Ext w2 wy:=hd2.trans hy
      have hy1:Ext w1 wy:=hde.trans hy
      refine hK.out _ _ hy2 ?_
      refine pT ?_
      refine uQ ?_
      (refine za rfl rfl rfl rfl (fun K hK=>?_))
      go_simp
      refine (HK2.out _ hy1).mono ?_
      rintro e wx ⟨rfl,hx⟩
      have hx2:Ext w2 wx:=hy2.trans hx
      have hx1':Ext w1 wx:=hy1.trans hx
      refine hK.out _ _ ?_
      refine pT ?_
      refine uQ ?_
      refine zd ?_
      go_wp2_with fail
      go_ret
      exact⟨zk (by simp),hx1.trans hx1'⟩
     ·cases u3
      ·have hz:(if (true&&true)=false then (3:Int) else if false=false then 4 else 0)=4:=rfl
       exact yZLawChfFaulta1
      ·have hz:(if (true&&true)=false then (3:Int) else if true=false then 4 else 0)=0:=rfl
       exact yZLawChfFaulta1
end Go.Proofs.YtndhahednhnnbaaGreatDoor
