/- The law FnCheckMore, walked: it answers true, and leaves all old memory as it was; printed by gen_ckmore.py. -/
import Derived.Test.YtndhahednhnnbaaGreatDoorM13
namespace Go.Proofs.YtndhahednhnnbaaGreatDoor
open Go Go.RowKit
set_option maxHeartbeats 4000000
theorem yZLawCkMorea1 {P:Prop}(h:P:=by
 clear hwi
 go_wp2_with (first
  |(go_at_call 32;with_reducible refine (HI.out _ hcur).mono ?_;rintro e wz ⟨rfl,hz⟩;replace hcur:=hcur.trans hz;replace h4:=h4.trans hz;clear hz)
  |(go_at_call 33;with_reducible refine (HR.out _ hcur).mono ?_;rintro e wz ⟨rfl,hz⟩;replace hcur:=hcur.trans hz;replace h4:=h4.trans hz;clear hz))
 go_ret
 exact⟨zh (by simp),hx03.trans hcur⟩
 ):P:=h
set_option maxRecDepth 100000 in
theorem law_CheckMore {A0 B0:Option Addr} {n0 c0 m0 d0:Nat} {w:World}(h:Bytes w A0 n0)(hn:n0≤9223372036854775807)(hc:n0≤c0)(hc2:c0≤9223372036854775807)
  (h':Bytes w B0 m0) (hm:m0≤9223372036854775807) (hd0:m0≤d0) (hd2:d0≤9223372036854775807) (hT:Tab w) :
  Calls Tryz.prog 13 #[.slice A0 n0 c0,.slice B0 m0 d0] w fun e w'=>e=.returned (.bool true)∧Ext w w':=by
 have Hh:=hide h
 have Hh':=hide (fun W (hW:Ext w W)=>h'.ext hW)
 have HT:=hide (fun W (hW:Ext w W)=>hT.ext hW)
 clear h h' hT
 by_cases hbig:1048576<n0
 ·have hbig':(1048576:Int)<(n0:Int):=by omega
  go_enter Tryz.func13,Tryz.ntmps13
  go_wp2
  go_ret
  exact⟨rfl,Ext.refl _⟩
 have hbig':(n0:Int)≤1048576:=by omega
 clear hbig
 by_cases hbig2:1048576<m0
 ·have hbig2':(1048576:Int)<(m0:Int):=by omega
  go_enter Tryz.func13,Tryz.ntmps13
  go_wp2
  go_ret
  exact⟨rfl,Ext.refl _⟩
 have hbig2':(m0:Int)≤1048576:=by omega
 clear hbig2
 go_enter Tryz.func13,Tryz.ntmps13
 go_upto_region 4 with (first
  |(go_at_call 31;refine (spec_DrawTracesWithin Hh.out hn hc hc2).mono ?_;rintro e w1 ⟨u,A1,n1,c1,v,A2,n2,c2,rfl,hu,hv,-,-,hx1⟩))
 have HU:=hide (fun W (hW:Ext w1 W)=>hu.ext hW)
 have HV:=hide (fun W (hW:Ext w1 W)=>hv.ext hW)
 have hx12:Ext w1 ((w1.alloc (.cells #[.int .i64 u.al,.int .i64 u.st,.slice A1 n1 c1] 39)).alloc (.cells #[.int .i64 v.al,.int .i64 v.st,.slice A2 n2 c2] 39)):=((Ext.refl _).alloc _).alloc _
 obtain⟨bu,bv⟩:=zJ (Ext.refl ((w1.alloc (.cells #[.int .i64 u.al,.int .i64 u.st,.slice A1 n1 c1] 39)).alloc (.cells #[.int .i64 v.al,.int .i64 v.st,.slice A2 n2 c2] 39)))
 clear hbig' hn hc hc2 hu hv Hh
 generalize (w1.alloc (.cells #[.int .i64 u.al,.int .i64 u.st,.slice A1 n1 c1] 39)).alloc (.cells #[.int .i64 v.al,.int .i64 v.st,.slice A2 n2 c2] 39)=w2 at *
 generalize w1.heap.size=G0 at *
 have hx02:=hx1.trans hx12
 go_upto_region 5 with (first
  |(go_at_call 24;refine (zge (Hh'.out _ hx02) hm hd0 hd2).mono ?_;rintro e w3 ⟨s,A,n,c,t,C,k,c3,p,B,m,d,B',m',d',hd,a,D,q,f,D',q',f',x,rfl,⟨hs,ht,hp,ha⟩,hsz,hx3⟩))
 clear hbig2' hm hd0 hd2
 have Hsz:=hide hsz.out
 have hxs:=hide (show x.size≤9223372036854775807 from Nat.le_trans Hsz.out.2.2.2 (by omega))
 have hx13:=hx12.trans hx3
 have hx03:=hx02.trans hx3
 have HS:=hide (fun W (hW:Ext w3 W)=>hs.ext hW)
 have HP:=hide (fun W (hW:Ext w3 W)=>hp.ext hW)
 have HA:=hide (fun W (hW:Ext w3 W)=>ha.ext hW)
 have HTw:=hide (fun W (hW:Ext w3 W)=>HT.out W (hx03.trans hW))
 have hcur:Ext w3 ((((w3.alloc (.cells #[.int .i64 s.al,.int .i64 s.st,.slice A n c] 39)).alloc (.cells #[.int .i64 t.al,.int .i64 t.st,.slice C k c3] 39)).alloc (.cells #[.int .i64 p.al,.slice B m d,.slice B' m' d'] 27)).alloc (.cells #[.bool hd,.int .i64 a.al,.slice D q f,.slice D' q' f',.string x] 45)):=((((Ext.refl _).alloc _).alloc _).alloc _).alloc _
 obtain⟨b1,b2,b3,b4⟩:=ext_blk4 (Ext.refl ((((w3.alloc (.cells #[.int .i64 s.al,.int .i64 s.st,.slice A n c] 39)).alloc (.cells #[.int .i64 t.al,.int .i64 t.st,.slice C k c3] 39)).alloc (.cells #[.int .i64 p.al,.slice B m d,.slice B' m' d'] 27)).alloc (.cells #[.bool hd,.int .i64 a.al,.slice D q f,.slice D' q' f',.string x] 45)))
 have bu4:=bu.ext (hx3.trans hcur)
 have bv4:=bv.ext (hx3.trans hcur)
 clear hs ht hp ha hsz Hh' HT bu bv
 generalize (((w3.alloc (.cells #[.int .i64 s.al,.int .i64 s.st,.slice A n c] 39)).alloc (.cells #[.int .i64 t.al,.int .i64 t.st,.slice C k c3] 39)).alloc (.cells #[.int .i64 p.al,.slice B m d,.slice B' m' d'] 27)).alloc (.cells #[.bool hd,.int .i64 a.al,.slice D q f,.slice D' q' f',.string x] 45)=w4 at *
 generalize w3.heap.size=G at *
 have cU:=bu4.cells
 have cV:=bv4.cells
 have cS:=b1.cells
 have cP:=b3.cells
 have cC:=b4.cells
 have h4:=Ext.refl w4
 clear b1 b2 b3 b4 bu4 bv4
 have HI:=hide (fun W (hW:Ext w3 W)=>impl_TracesWithin (c:=c1) (d:=c2) (HU.out _ (hx13.trans hW)) (HV.out _ (hx13.trans hW)) (HTw.out _ hW))
 have HR:=hide (fun W (hW:Ext w3 W)=>spec_TracesWithin (c:=c1) (d:=c2) (HU.out _ (hx13.trans hW)) (HV.out _ (hx13.trans hW)))
 cases hwi:zcq u v
 case false =>
  rw [hwi] at HI HR
  exact yZLawCkMorea1
 case true =>
  rw [hwi] at HI HR
  cases hd
  case true =>
   exact yZLawCkMorea1
  case false =>
   have H1:=hide (fun W (hW:Ext w3 W)=>impl_CheckCertificate0 (c:=c) (d1:=d) (d1':=d') (c2:=c1) (d2:=f) (d2':=f') (x:=x) (HS.out _ hW) (HU.out _ (hx13.trans hW)) (HP.out _ hW) (HA.out _ hW) hxs.out (HTw.out _ hW))
   have H2:=hide (fun W (hW:Ext w3 W)=>impl_CheckCertificate0 (c:=c) (d1:=d) (d1':=d') (c2:=c2) (d2:=f) (d2':=f') (x:=x) (HS.out _ hW) (HV.out _ (hx13.trans hW)) (HP.out _ hW) (HA.out _ hW) hxs.out (HTw.out _ hW))
   by_cases hz:zcX s u p false a x=0
   ·rw [check_more hwi hz] at H2
    rw [hz] at H1
    clear hwi hz
    go_wp2_with (first
     |(go_at_call 32;with_reducible refine (HI.out _ hcur).mono ?_;rintro e wz ⟨rfl,hz⟩;replace hcur:=hcur.trans hz;replace h4:=h4.trans hz;clear hz)
     |(go_at_call 33;with_reducible refine (HR.out _ hcur).mono ?_;rintro e wz ⟨rfl,hz⟩;replace hcur:=hcur.trans hz;replace h4:=h4.trans hz;clear hz)
     |(go_at_call 25;with_reducible refine (H1.out _ hcur).mono ?_;rintro e wz ⟨rfl,hz⟩;replace hcur:=hcur.trans hz;replace h4:=h4.trans hz;clear hz)
     |(go_at_call 25;with_reducible refine (H2.out _ hcur).mono ?_;rintro e wz ⟨rfl,hz⟩;replace hcur:=hcur.trans hz;replace h4:=h4.trans hz;clear hz))
    go_ret
    exact⟨zh (by simp),hx03.trans hcur⟩
   ·have z0:(zcX s u p false a x != 0)=true:=by simpa using hz
    generalize zcX s u p false a x=z at *
    clear hwi hz H2
    go_wp2_with (first
     |(go_at_call 32;with_reducible refine (HI.out _ hcur).mono ?_;rintro e wz ⟨rfl,hz⟩;replace hcur:=hcur.trans hz;replace h4:=h4.trans hz;clear hz)
     |(go_at_call 33;with_reducible refine (HR.out _ hcur).mono ?_;rintro e wz ⟨rfl,hz⟩;replace hcur:=hcur.trans hz;replace h4:=h4.trans hz;clear hz)
     |(go_at_call 25;with_reducible refine (H1.out _ hcur).mono ?_;rintro e wz ⟨rfl,hz⟩;replace hcur:=hcur.trans hz;replace h4:=h4.trans hz;clear hz))
    go_ret
    exact⟨zh (by simp),hx03.trans hcur⟩
end Go.Proofs.YtndhahednhnnbaaGreatDoor
