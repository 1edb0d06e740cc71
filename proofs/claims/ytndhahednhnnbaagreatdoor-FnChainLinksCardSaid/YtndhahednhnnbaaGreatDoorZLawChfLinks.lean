/- The law FnChainLinks, walked: it answers true, and leaves all old memory as it was; printed by gen_lawchf.py. -/
import Derived.Test.YtndhahednhnnbaaGreatDoorH14
import Derived.Test.YtndhahednhnnbaaGreatDoorH08
import Derived.Test.YtndhahednhnnbaaGreatDoorH07
import Derived.Test.YtndhahednhnnbaaGreatDoorH12
namespace Go.Proofs.YtndhahednhnnbaaGreatDoor
open Go Go.RowKit
set_option maxHeartbeats 4000000
set_option maxRecDepth 100000 in
theorem law_ChainLinks {A0:Option Addr} {n0 c0:Nat} {w:World}(h:Bytes w A0 n0)(hn:n0≤9223372036854775807)(hc:n0≤c0)(hc2:c0≤9223372036854775807)(hT:Tab w) :
  Calls Tryz.prog 6 #[.slice A0 n0 c0] w fun e w'=>e=.returned (.bool true)∧Ext w w':=by
 have Hh:=hide h
 have HT:=hide (fun W (hW:Ext w W)=>hT.ext hW)
 clear h hT
 by_cases hbig:1048576<n0
 ·have hbig':(1048576:Int)<(n0:Int):=by omega
  go_enter Tryz.func6,Tryz.ntmps6
  go_wp2
  go_ret
  exact⟨rfl,Ext.refl _⟩
 have hbig':(n0:Int)≤1048576:=by omega
 clear hbig
 go_enter Tryz.func6,Tryz.ntmps6
 go_upto_region 4 with (first
  |(go_at_call 15;refine (spec_DrawChainFault Hh.out hn hc hc2).mono ?_;rintro e w1 ⟨l,k,g,c,p,A,n,c1,A',n',c2,f,B,m,d,B',m',d',u,C,q,e1,C',q',e1',hl,hk,hkc,rfl,hsl,⟨hp,hf,hu⟩,hdl,-,hx1⟩))
 clear hbig' hn hc hc2
 obtain⟨ss,hss⟩:∃ ss,Hid (l.map Ent.s=ss):=⟨_,rfl⟩
 rw [hss.out] at hsl
 have HS:=hide (fun W (hW:Ext w1 W)=>hsl.ext hW)
 have HP:=hide (fun W (hW:Ext w1 W)=>hp.ext hW)
 have HF:=hide (fun W (hW:Ext w1 W)=>hf.ext hW)
 have HU:=hide (fun W (hW:Ext w1 W)=>hu.ext hW)
 have HTw:=hide (fun W (hW:Ext w1 W)=>HT.out W (hx1.trans hW))
 have hcur:Ext w1 ((w1.alloc (.cells #[.int .i64 p.al,.slice A n c1,.slice A' n' c2] 27)).alloc (.cells #[.int .i64 f.al,.slice B m d,.slice B' m' d',.int .i64 u.al,.slice C q e1,.slice C' q' e1'] 29)):=((Ext.refl _).alloc _).alloc _
 obtain⟨b1,b2⟩:=zR (Ext.refl ((w1.alloc (.cells #[.int .i64 p.al,.slice A n c1,.slice A' n' c2] 27)).alloc (.cells #[.int .i64 f.al,.slice B m d,.slice B' m' d',.int .i64 u.al,.slice C q e1,.slice C' q' e1'] 29)))
 clear hsl hp hf hu Hh HT
 obtain⟨w2,hw2⟩:∃ w2,w2=(w1.alloc (.cells #[.int .i64 p.al,.slice A n c1,.slice A' n' c2] 27)).alloc (.cells #[.int .i64 f.al,.slice B m d,.slice B' m' d',.int .i64 u.al,.slice C q e1,.slice C' q' e1'] 29):=⟨_,rfl⟩
 rw [← hw2] at hcur b1 b2 ⊢
 clear hw2
 generalize w1.heap.size=G at *
 have cP:=b1.cells
 have cC:=b2.cells
 have h2:=Ext.refl w2
 clear b1 b2
 have HI:=hide (fun W (hW:Ext w1 W)=>impl_ChainFault (c:=c) (d1:=c1) (d1':=c2) (d2:=d) (d2':=d') (d3:=e1) (d3':=e1') (HS.out _ hW) (HP.out _ hW) (HF.out _ hW) (HU.out _ hW) (HTw.out _ hW))
 have HR:=hide (fun W (hW:Ext w1 W)=>spec_ChainFault (c:=c) (d1:=c1) (d1':=c2) (d2:=d) (d2':=d') (d3:=e1) (d3':=e1') (HS.out _ hW) (HP.out _ hW) (HF.out _ hW) (HU.out _ hW))
 by_cases hz:zaA ss p f u=0
 case neg =>
  have z0:(zaA ss p f u != 0)=true:=by simpa using hz
  generalize zaA ss p f u=z at *
  clear hz
  go_wp2_with (first
   |(go_at_call 16;with_reducible refine (HI.out _ hcur).mono ?_;rintro e wz ⟨rfl,hz⟩;replace hcur:=hcur.trans hz;replace h2:=h2.trans hz;clear hz)
   |(go_at_call 18;with_reducible refine (HR.out _ hcur).mono ?_;rintro e wz ⟨rfl,hz⟩;replace hcur:=hcur.trans hz;replace h2:=h2.trans hz;clear hz))
  go_ret
  exact⟨zk (by simp),hx1.trans hcur⟩
 case pos =>
  obtain⟨x,y,z,hxyz,hk2,hfa⟩:=(chain_sound hz).2
  subst hxyz
  obtain rfl:k=3:=(HS.out w1 (Ext.refl _)).1
  obtain⟨Bx,nx_,cx,q0,q1,q2,hxs⟩:=(HS.out w1 (Ext.refl _)).sys2 (k:=0) (s:=x) rfl
  obtain⟨By,ny,cy,r0,r1,r2,hys⟩:=(HS.out w1 (Ext.refl _)).sys2 (k:=1) (s:=y) rfl
  obtain⟨Bz,nz,cz,s0,s1,s2,hzs⟩:=(HS.out w1 (Ext.refl _)).sys2 (k:=2) (s:=z) rfl
  have hcx:∀ W,Ext w2 W→W.cell? ⟨g,0,none⟩=some (.int .i64 x.al)∧W.cell? ⟨g,1,none⟩=some (.int .i64 x.st)∧W.cell? ⟨g,2,none⟩=some (.slice Bx nx_ cx)∧W.cell? ⟨g,3,none⟩=some (.int .i64 y.al)∧W.cell? ⟨g,4,none⟩=some (.int .i64 y.st)∧W.cell? ⟨g,5,none⟩=some (.slice By ny cy)∧W.cell? ⟨g,6,none⟩=some (.int .i64 z.al)∧W.cell? ⟨g,7,none⟩=some (.int .i64 z.st)∧W.cell? ⟨g,8,none⟩=some (.slice Bz nz cz):=fun W hW=>by
   have hW1:=hcur.trans hW
   exact⟨hW1.cell_some (by simpa using q0),hW1.cell_some (by simpa using q1),hW1.cell_some (by simpa using q2),hW1.cell_some (by simpa using r0),hW1.cell_some (by simpa using r1),hW1.cell_some (by simpa using r2),hW1.cell_some (by simpa using s0),hW1.cell_some (by simpa using s1),hW1.cell_some (by simpa using s2)⟩
  clear q0 q1 q2 r0 r1 r2 s0 s1 s2
  have HX:=hide (fun W (hW:Ext w1 W)=>hxs.ext hW)
  have HY:=hide (fun W (hW:Ext w1 W)=>hys.ext hW)
  have HZ:=hide (fun W (hW:Ext w1 W)=>hzs.ext hW)
  clear hxs hys hzs
  rw [hz] at HI HR
  have hk3:zar (List.tail [x,y,z]) f=true:=hk2
  have HL:=hide (fun W (hW:Ext w1 W) (cc:Nat)=>zga (c:=cc) (d2:=d) (d2':=d') ((HS.out _ hW).tail) (HF.out _ hW) (HTw.out _ hW))
  rw [hk3] at HL
  have HA:=hide (fun W (hW:Ext w1 W)=>impl_AssumptionFault (c:=cy) (d1:=d) (d1':=d') (c2:=cz) (d2:=e1) (d2':=e1') (HY.out _ hW) (HZ.out _ hW) (HF.out _ hW) (HU.out _ hW) (HTw.out _ hW))
  rw [hfa] at HA
  clear hz hk2 hk3 hfa hk
  have hkc3:(3:Int)≤(c:Int):=by omega
  have hcne:¬ c=1:=by omega
  go_upto_region 7 with (first
   |(go_at_call 16;with_reducible refine (HI.out _ hcur).mono ?_;rintro e wz ⟨rfl,hz⟩;replace hcur:=hcur.trans hz;replace h2:=h2.trans hz;clear hz)
   |(go_at_call 18;with_reducible refine (HR.out _ hcur).mono ?_;rintro e wz ⟨rfl,hz⟩;replace hcur:=hcur.trans hz;replace h2:=h2.trans hz;clear hz))
  have hde:Ext w1 wz.drew:=hcur.drew
  have hd2:Ext w2 wz.drew:=h2.drew
  refine uR (fun X=>Ext w2 X) [16] (OrdU.of [0,1,2,3,4,5,6,7,8,9,10,11,12,13,14,15,16,17,18,19]) ?_
  refine uQ ?_
  generalize wz.drew=wd at *
  (refine zb rfl rfl rfl (fun K hK=>?_);go_simp)
  with_reducible refine (HL.out _ hde _).mono ?_
  rintro e wy ⟨rfl,hy⟩
  have hy2:Ext w2 wy:=hd2.trans hy
  have hy1:Ext w1 wy:=hde.trans hy
  refine hK.out _ _ hy2 ?_
  refine pT ?_
  refine uQ ?_
  (refine za rfl rfl rfl rfl (fun K hK=>?_))
  go_simp
  refine (HA.out _ hy1).mono ?_
  rintro e wx ⟨rfl,hx⟩
  refine hK.out _ _ ?_
  refine pT ?_
  refine uQ ?_
  refine zd ?_
  go_wp2_with fail
  go_ret
  exact⟨zk (by simp),hx1.trans (hy1.trans hx)⟩
end Go.Proofs.YtndhahednhnnbaaGreatDoor
