/- The law FnSi -/
import Derived.Test.YtfcjhpodichpjaaDoorV06
import Derived.Test.YtfcjhpodichpjaaDoorV07
import Derived.Test.YtfcjhpodichpjaaDoorV05
import Derived.Test.YtfcjhpodichpjaaDoorV03
import Derived.Test.YtfcjhpodichpjaaDoorV01
set_option maxHeartbeats 4000000
set_option maxRecDepth 100000
namespace Go.Proofs.YtfcjhpodichpjaaDoor
open Go Go.RowKit
theorem law_SimulatesKeeps {A0 A9:Option Addr} {n0 c0 n9 c9:Nat} {w:World}(h:Bytes w A0 n0)(hn:n0≤9223372036854775807)(hc:n0≤c0)(hc2:c0≤9223372036854775807) (g:Bytes w A9 n9) (gn:n9≤9223372036854775807) (gc:n9≤c9) (gc2:c9≤9223372036854775807)(hT:Tab w) :
  Calls Tryd.prog 4 #[.slice A0 n0 c0,.slice A9 n9 c9] w fun e w'=>e=.returned (.bool true)∧Ext w w':=by
 have Hh:=za h
 have Hg:=za (fun W (hW:Ext w W)=>g.ext hW)
 have HTab:=za (fun W (hW:Ext w W)=>hT.ext hW)
 clear h g hT
 by_cases hbig:1048576<n0
 ·have hbig':(1048576:Int)<(n0:Int):=by omega
  go_enter Tryd.func4,Tryd.ntmps4
  go_wp2
  go_ret
  exact⟨rfl,Ext.refl _⟩
 have hbig':(n0:Int)≤1048576:=by omega
 clear hbig
 by_cases hbig:1048576<n9
 ·have hbig9:(1048576:Int)<(n9:Int):=by omega
  go_enter Tryd.func4,Tryd.ntmps4
  go_wp2
  go_ret
  exact⟨rfl,Ext.refl _⟩
 have hbig9:(n9:Int)≤1048576:=by omega
 clear hbig
 go_enter Tryd.func4,Tryd.ntmps4
 go_wp2_with fail
 refine (spec_DrawSimulates Hh.out hn hc hc2).mono ?_
 rintro e w1 ⟨s,B1,n1,c1,t,B2,n2,c2,rfl,hs1,ht1,-,-,hx1⟩
 have hcur:Ext w1 ((w1.alloc (.cells #[.int .i64 s.al,.int .i64 s.st,.slice B1 n1 c1] 39)).alloc (.cells #[.int .i64 t.al,.int .i64 t.st,.slice B2 n2 c2] 39)):=((Ext.refl _).alloc _).alloc _
 obtain⟨b1,b2⟩:=zv (Ext.refl ((w1.alloc (.cells #[.int .i64 s.al,.int .i64 s.st,.slice B1 n1 c1] 39)).alloc (.cells #[.int .i64 t.al,.int .i64 t.st,.slice B2 n2 c2] 39)))
 have HS:=za (fun W (hW:Ext w1 W)=>hs1.ext hW)
 have HT:=za (fun W (hW:Ext w1 W)=>ht1.ext hW)
 have HI:=za (fun W (hW:Ext w1 W)=>HTab.out _ (hx1.trans hW))
 have HB:=za (fun W (hW:Ext w1 W)=>Hg.out _ (hx1.trans hW))
 clear hs1 ht1 Hh Hg HTab hbig' hbig9
 go_upto_region 4 with fail
 generalize (w1.alloc (.cells #[.int .i64 s.al,.int .i64 s.st,.slice B1 n1 c1] 39)).alloc (.cells #[.int .i64 t.al,.int .i64 t.st,.slice B2 n2 c2] 39)=w2 at *
 generalize w1.heap.size=G at *
 obtain⟨b,hb⟩:∃ b,Hid (simB false s t=b):=⟨_,rfl⟩
 go_wp2_with fail
 refine (spec_DrawKeepsProperty (HB.out _ hcur) gn gc gc2).mono ?_
 rintro e w3 ⟨s8,A8,n8,c8,p,C,m,d,C',m',d',lo,hi,rfl,hp,hx3⟩
 replace b1:=b1.ext hx3
 replace b2:=b2.ext hx3
 replace hcur:=hcur.trans hx3
 have HP:=za (fun W (hW:Ext w3 W)=>hp.ext hW)
 have hx4:Ext w3 ((w3.alloc (.cells #[.int .i64 s8.al,.int .i64 s8.st,.slice A8 n8 c8] 39)).alloc (.cells #[.int .i64 p.al,.slice C m d,.slice C' m' d'] 30)):=((Ext.refl _).alloc _).alloc _
 obtain⟨-,b3⟩:=zv (Ext.refl ((w3.alloc (.cells #[.int .i64 s8.al,.int .i64 s8.st,.slice A8 n8 c8] 39)).alloc (.cells #[.int .i64 p.al,.slice C m d,.slice C' m' d'] 30)))
 replace b1:=b1.ext hx4
 replace b2:=b2.ext hx4
 replace hcur:=hcur.trans hx4
 have hcp:=hx4
 clear hp hx4
 go_upto_region 5 with fail
 generalize (w3.alloc (.cells #[.int .i64 s8.al,.int .i64 s8.st,.slice A8 n8 c8] 39)).alloc (.cells #[.int .i64 p.al,.slice C m d,.slice C' m' d'] 30)=w4 at *
 generalize w3.heap.size+1=G3 at *
 have k_b1:=b1.cell
 have k_b2:=b2.cell
 have k_b3:=b3.cell
 go_upto_region 99 with fail
 refine (impl_Simulates (HS.out _ hcur) (HT.out _ hcur) (HI.out _ hcur)).mono ?_
 rw [hb.out]
 rintro e w15 ⟨rfl,hx15⟩
 clear k_b1
 clear k_b2
 clear k_b3
 replace b1:=b1.ext hx15
 replace b2:=b2.ext hx15
 replace b3:=b3.ext hx15
 replace hcur:=hcur.trans hx15
 have k_b1:=b1.cell
 have k_b2:=b2.cell
 have k_b3:=b3.cell
 replace hcp:=hcp.trans hx15
 go_upto_region 99 with fail
 refine (spec_Simulates (HS.out _ hcur) (HT.out _ hcur)).mono ?_
 rw [hb.out]
 rintro e w16 ⟨rfl,hx16⟩
 clear k_b1
 clear k_b2
 clear k_b3
 replace b1:=b1.ext hx16
 replace b2:=b2.ext hx16
 replace b3:=b3.ext hx16
 replace hcur:=hcur.trans hx16
 have k_b1:=b1.cell
 have k_b2:=b2.cell
 have k_b3:=b3.cell
 replace hcp:=hcp.trans hx16
 cases hbb:b
 case false =>
  subst hbb
  go_upto_region 99 with fail
  refine (spec_Simulates (HS.out _ hcur) (HT.out _ hcur)).mono ?_
  rw [hb.out]
  rintro e w17 ⟨rfl,hx17⟩
  clear k_b1
  clear k_b2
  clear k_b3
  replace b1:=b1.ext hx17
  replace b2:=b2.ext hx17
  replace b3:=b3.ext hx17
  replace hcur:=hcur.trans hx17
  have k_b1:=b1.cell
  have k_b2:=b2.cell
  have k_b3:=b3.cell
  replace hcp:=hcp.trans hx17
  go_wp2_with fail
  go_ret
  exact⟨rfl,hx1.trans hcur⟩
 case true =>
  subst hbb
  have Hk:=za (fun h=>sim_keeps (p:=p) hb.out h)
  obtain⟨k1,hk1⟩:∃ b,Hid (zci [t] p=b):=⟨_,rfl⟩
  obtain⟨k2,hk2⟩:∃ b,Hid (zci [s] p=b):=⟨_,rfl⟩
  have Hk2:=za (show k1=true→k2=true from fun h=>by rw [← hk2.out];exact Hk.out (by rw [hk1.out];exact h))
  clear Hk
  go_upto_region 99 with fail
  refine (impl_KeepsProperty (HT.out _ hcur) (HP.out _ hcp) (HI.out _ hcur)).mono ?_
  rw [hk1.out]
  rintro e w18 ⟨rfl,hx18⟩
  clear k_b1
  clear k_b2
  clear k_b3
  replace b1:=b1.ext hx18
  replace b2:=b2.ext hx18
  replace b3:=b3.ext hx18
  replace hcur:=hcur.trans hx18
  have k_b1:=b1.cell
  have k_b2:=b2.cell
  have k_b3:=b3.cell
  replace hcp:=hcp.trans hx18
  cases k1
  case false =>
   go_wp2_with fail
   go_ret
   exact⟨rfl,hx1.trans hcur⟩
  case true =>
   obtain rfl:k2=true:=Hk2.out rfl
   go_upto_region 99 with fail
   refine (impl_KeepsProperty (HS.out _ hcur) (HP.out _ hcp) (HI.out _ hcur)).mono ?_
   rw [hk2.out]
   rintro e w19 ⟨rfl,hx19⟩
   clear k_b1
   clear k_b2
   clear k_b3
   replace b1:=b1.ext hx19
   replace b2:=b2.ext hx19
   replace b3:=b3.ext hx19
   replace hcur:=hcur.trans hx19
   have k_b1:=b1.cell
   have k_b2:=b2.cell
   have k_b3:=b3.cell
   replace hcp:=hcp.trans hx19
   go_wp2_with fail
   go_ret
   exact⟨rfl,hx1.trans hcur⟩
end Go.Proofs.YtfcjhpodichpjaaDoor
