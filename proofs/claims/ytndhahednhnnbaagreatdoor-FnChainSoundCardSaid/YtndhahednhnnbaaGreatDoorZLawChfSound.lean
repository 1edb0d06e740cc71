/- The law FnChainSound, walked: it answers true, and leaves all old memory as it was; printed by gen_lawchf.py. -/
import Derived.Test.YtndhahednhnnbaaGreatDoorH14
import Derived.Test.YtndhahednhnnbaaGreatDoorH08
import Derived.Test.YtndhahednhnnbaaGreatDoorH07
namespace Go.Proofs.YtndhahednhnnbaaGreatDoor
open Go Go.RowKit
set_option maxHeartbeats 4000000
set_option maxRecDepth 100000 in
theorem law_ChainSound {A0:Option Addr} {n0 c0:Nat} {w:World}(h:Bytes w A0 n0)(hn:n0≤9223372036854775807)(hc:n0≤c0)(hc2:c0≤9223372036854775807)(hT:Tab w) :
  Calls Tryz.prog 5 #[.slice A0 n0 c0] w fun e w'=>e=.returned (.bool true)∧Ext w w':=by
 have Hh:=hide h
 have HT:=hide (fun W (hW:Ext w W)=>hT.ext hW)
 clear h hT
 by_cases hbig:1048576<n0
 ·have hbig':(1048576:Int)<(n0:Int):=by omega
  go_enter Tryz.func5,Tryz.ntmps5
  go_wp2
  go_ret
  exact⟨rfl,Ext.refl _⟩
 have hbig':(n0:Int)≤1048576:=by omega
 clear hbig
 go_enter Tryz.func5,Tryz.ntmps5
 go_upto_region 4 with (first
  |(go_at_call 15;refine (spec_DrawChainFault Hh.out hn hc hc2).mono ?_;rintro e w1 ⟨l,k,g,c,p,A,n,c1,A',n',c2,f,B,m,d,B',m',d',u,C,q,e1,C',q',e1',hl,hk,hkc,rfl,hsl,⟨hp,hf,hu⟩,hdl,-,hx1⟩))
 clear hbig' hn hc hc2
 obtain⟨ss,hss⟩:∃ ss,Hid (l.map Ent.s=ss):=⟨_,rfl⟩
 rw [hss.out] at hsl
 have HS:=hide (fun W (hW:Ext w1 W)=>hsl.ext hW)
 have HP:=hide (fun W (hW:Ext w1 W)=>hp.ext hW)
 have HF:=hide (fun W (hW:Ext w1 W)=>hf.ext hW)
 have HU:=hide (fun W (hW:Ext w1 W)=>hu.ext hW)
 have HTw:=hide (fun W (hW:Ext w1 W)=>HT.out W (hx1.trans hW))
 have hcur:Ext w1 ((w1.alloc (.cells #[.int .i64 p.al,.slice A n c1,.slice A' n' c2] 27)).alloc (.cells #[.int .i64 f.al,.slice B m d,.slice B' m' d',.int .i64 u.al,.slice C q e1,.slice C' q' e1'] 29)):=((Ext.refl _).alloc _).alloc _
 obtain⟨b1,b2⟩:=zR (Ext.refl ((w1.alloc (.cells #[.int .i64 p.al,.slice A n c1,.slice A' n' c2] 27)).alloc (.cells #[.int .i64 f.al,.slice B m d,.slice B' m' d',.int .i64 u.al,.slice C q e1,.slice C' q' e1'] 29)))
 clear hsl hp hf hu Hh HT
 obtain⟨w2,hw2⟩:∃ w2,w2=(w1.alloc (.cells #[.int .i64 p.al,.slice A n c1,.slice A' n' c2] 27)).alloc (.cells #[.int .i64 f.al,.slice B m d,.slice B' m' d',.int .i64 u.al,.slice C q e1,.slice C' q' e1'] 29):=⟨_,rfl⟩
 rw [← hw2] at hcur b1 b2 ⊢
 clear hw2
 generalize w1.heap.size=G at *
 have cP:=b1.cells
 have cC:=b2.cells
 have h2:=Ext.refl w2
 clear b1 b2
 have HI:=hide (fun W (hW:Ext w1 W)=>impl_ChainFault (c:=c) (d1:=c1) (d1':=c2) (d2:=d) (d2':=d') (d3:=e1) (d3':=e1') (HS.out _ hW) (HP.out _ hW) (HF.out _ hW) (HU.out _ hW) (HTw.out _ hW))
 have HR:=hide (fun W (hW:Ext w1 W)=>spec_ChainFault (c:=c) (d1:=c1) (d1':=c2) (d2:=d) (d2':=d') (d3:=e1) (d3':=e1') (HS.out _ hW) (HP.out _ hW) (HF.out _ hW) (HU.out _ hW))
 by_cases hz:zaA ss p f u=0
 case neg =>
  have z0:(zaA ss p f u != 0)=true:=by simpa using hz
  generalize zaA ss p f u=z at *
  clear hz
  go_wp2_with (first
   |(go_at_call 16;with_reducible refine (HI.out _ hcur).mono ?_;rintro e wz ⟨rfl,hz⟩;replace hcur:=hcur.trans hz;replace h2:=h2.trans hz;clear hz)
   |(go_at_call 18;with_reducible refine (HR.out _ hcur).mono ?_;rintro e wz ⟨rfl,hz⟩;replace hcur:=hcur.trans hz;replace h2:=h2.trans hz;clear hz))
  go_ret
  exact⟨zk (by simp),hx1.trans hcur⟩
 case pos =>
  have HL:=hide (fun W (hW:Ext w1 W)=>zga (c:=c) (d2:=c1) (d2':=c2) (HS.out _ hW) (HP.out _ hW) (HTw.out _ hW))
  rw [(chain_sound hz).1] at HL
  rw [hz] at HI HR
  clear hz
  go_wp2_with (first
   |(go_at_call 16;with_reducible refine (HI.out _ hcur).mono ?_;rintro e wz ⟨rfl,hz⟩;replace hcur:=hcur.trans hz;replace h2:=h2.trans hz;clear hz)
   |(go_at_call 18;with_reducible refine (HR.out _ hcur).mono ?_;rintro e wz ⟨rfl,hz⟩;replace hcur:=hcur.trans hz;replace h2:=h2.trans hz;clear hz)
   |(go_at_call 22;with_reducible refine (HL.out _ hcur).mono ?_;rintro e wz ⟨rfl,hz⟩;replace hcur:=hcur.trans hz;replace h2:=h2.trans hz;clear hz))
  go_ret
  exact⟨zk (by simp),hx1.trans hcur⟩
end Go.Proofs.YtndhahednhnnbaaGreatDoor
