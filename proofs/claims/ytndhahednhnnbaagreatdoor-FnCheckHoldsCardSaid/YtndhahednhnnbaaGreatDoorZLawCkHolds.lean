/- The law FnCheckHolds, walked: it answers true, and leaves all old memory as it was; printed by gen_lawck.py. -/
import Derived.Test.YtndhahednhnnbaaGreatDoorG15
namespace Go.Proofs.YtndhahednhnnbaaGreatDoor
open Go Go.RowKit
set_option maxHeartbeats 4000000
theorem yZLawCkHoldsa1 {P:Prop}(h:P:=by
 go_wp2_with (first
  |(go_at_call 25;with_reducible refine (HI.out _ hcur).mono ?_;rintro e wz ⟨rfl,hz⟩;replace hcur:=hcur.trans hz;replace h2:=h2.trans hz;clear hz)
  |(go_at_call 26;with_reducible refine (HR.out _ hcur).mono ?_;rintro e wz ⟨rfl,hz⟩;replace hcur:=hcur.trans hz;replace h2:=h2.trans hz;clear hz)
  |(go_at_call 27;with_reducible refine (HV.out _ hcur).mono ?_;rintro e wz ⟨rfl,hz⟩;replace hcur:=hcur.trans hz;replace h2:=h2.trans hz;clear hz)
  |(go_at_call 23;with_reducible refine (HF.out _ hcur).mono ?_;rintro e wz ⟨rfl,hz⟩;replace hcur:=hcur.trans hz;replace h2:=h2.trans hz;clear hz))
 go_ret
 exact⟨zi (by simp),hx1.trans hcur⟩
 ):P:=h
theorem yZLawCkHoldsa2 {P:Prop}(h:P:=by
 go_wp2_with (first
  |(go_at_call 25;with_reducible refine (HI.out _ hcur).mono ?_;rintro e wz ⟨rfl,hz⟩;replace hcur:=hcur.trans hz;replace h2:=h2.trans hz;clear hz)
  |(go_at_call 26;with_reducible refine (HR.out _ hcur).mono ?_;rintro e wz ⟨rfl,hz⟩;replace hcur:=hcur.trans hz;replace h2:=h2.trans hz;clear hz)
  |(go_at_call 27;with_reducible refine (HV.out _ hcur).mono ?_;rintro e wz ⟨rfl,hz⟩;replace hcur:=hcur.trans hz;replace h2:=h2.trans hz;clear hz))
 go_ret
 exact⟨zi (by simp),hx1.trans hcur⟩
 ):P:=h
set_option maxRecDepth 100000 in
theorem law_CheckHolds {A0:Option Addr} {n0 c0:Nat} {w:World}(h:Bytes w A0 n0)(hn:n0≤9223372036854775807)(hc:n0≤c0)(hc2:c0≤9223372036854775807)(hT:Tab w) :
  Calls Tryz.prog 9 #[.slice A0 n0 c0] w fun e w'=>e=.returned (.bool true)∧Ext w w':=by
 have Hh:=hide h
 have HT:=hide (fun W (hW:Ext w W)=>hT.ext hW)
 clear h hT
 by_cases hbig:1048576<n0
 ·have hbig':(1048576:Int)<(n0:Int):=by omega
  go_enter Tryz.func9,Tryz.ntmps9
  go_wp2
  go_ret
  exact⟨rfl,Ext.refl _⟩
 have hbig':(n0:Int)≤1048576:=by omega
 clear hbig
 go_enter Tryz.func9,Tryz.ntmps9
 go_upto_region 4 with (first
  |(go_at_call 24;refine (zgI Hh.out hn hc hc2).mono ?_;rintro e w1 ⟨s,A,n,c,t,C,k,c2,p,B,m,d,B',m',d',hd,a,D,q,f,D',q',f',x,rfl,⟨hs,ht,hp,ha⟩,hsz,hx1⟩))
 clear hbig' hn hc hc2
 have Hsz:=hide hsz.out
 have hxs:=hide (show x.size≤9223372036854775807 from Nat.le_trans Hsz.out.2.2.2 (by omega))
 have HS:=hide (fun W (hW:Ext w1 W)=>hs.ext hW)
 have HU:=hide (fun W (hW:Ext w1 W)=>ht.ext hW)
 have HP:=hide (fun W (hW:Ext w1 W)=>hp.ext hW)
 have HA:=hide (fun W (hW:Ext w1 W)=>ha.ext hW)
 have HTw:=hide (fun W (hW:Ext w1 W)=>HT.out W (hx1.trans hW))
 have hcur:Ext w1 ((((w1.alloc (.cells #[.int .i64 s.al,.int .i64 s.st,.slice A n c] 39)).alloc (.cells #[.int .i64 t.al,.int .i64 t.st,.slice C k c2] 39)).alloc (.cells #[.int .i64 p.al,.slice B m d,.slice B' m' d'] 27)).alloc (.cells #[.bool hd,.int .i64 a.al,.slice D q f,.slice D' q' f',.string x] 45)):=((((Ext.refl _).alloc _).alloc _).alloc _).alloc _
 obtain⟨b1,b2,b3,b4⟩:=zeJ (Ext.refl ((((w1.alloc (.cells #[.int .i64 s.al,.int .i64 s.st,.slice A n c] 39)).alloc (.cells #[.int .i64 t.al,.int .i64 t.st,.slice C k c2] 39)).alloc (.cells #[.int .i64 p.al,.slice B m d,.slice B' m' d'] 27)).alloc (.cells #[.bool hd,.int .i64 a.al,.slice D q f,.slice D' q' f',.string x] 45)))
 clear hs ht hp ha hsz Hh HT
 generalize (((w1.alloc (.cells #[.int .i64 s.al,.int .i64 s.st,.slice A n c] 39)).alloc (.cells #[.int .i64 t.al,.int .i64 t.st,.slice C k c2] 39)).alloc (.cells #[.int .i64 p.al,.slice B m d,.slice B' m' d'] 27)).alloc (.cells #[.bool hd,.int .i64 a.al,.slice D q f,.slice D' q' f',.string x] 45)=w2 at *
 generalize w1.heap.size=G at *
 have cS:=b1.cells
 have cT:=b2.cells
 have cP:=b3.cells
 have cC:=b4.cells
 have cPa:∀ W o,Ext w2 W→∀ j,(W.alloc o).cell? ⟨G+1+1,j,none⟩=#[Value.int .i64 p.al,.slice B m d,.slice B' m' d'][j]?:=fun W o hW=>(b3.ext (hW.alloc o)).cell
 have cCa:∀ W o,Ext w2 W→∀ j,(W.alloc o).cell? ⟨G+1+1+1,j,none⟩=#[Value.bool hd,.int .i64 a.al,.slice D q f,.slice D' q' f',.string x][j]?:=fun W o hW=>(b4.ext (hW.alloc o)).cell
 have h2:=Ext.refl w2
 clear b1 b2 b3 b4
 have HI:=hide (fun W (hW:Ext w1 W)=>impl_CheckCertificate (c:=c) (d1:=d) (d1':=d') (c2:=c2) (d2:=f) (d2':=f') (hd:=hd) (x:=x) (HS.out _ hW) (HU.out _ hW) (HP.out _ hW) (HA.out _ hW) hxs.out (HTw.out _ hW))
 have HR:=hide (fun W (hW:Ext w1 W)=>spec_CheckCertificate (c:=c) (d1:=d) (d1':=d') (c2:=c2) (d2:=f) (d2':=f') (hd:=hd) (x:=x) (HS.out _ hW) (HU.out _ hW) (HP.out _ hW) (HA.out _ hW) hxs.out)
 have HV:=hide (fun W (hW:Ext w1 W)=>zdt _ _ _ _ f _ _ f' hd _ x _ (HA.out _ hW) hxs.out)
 have HF:=hide (fun W (hW:Ext w1 W)=>zdJ (c:=c) (d1:=d) (d1':=d') (c2:=c2) (d2:=f) (d2':=f') (HS.out _ hW) (HU.out _ hW) (HP.out _ hW) (HA.out _ hW) (HTw.out _ hW))
 cases hd
 case false =>
  clear HF
  generalize zaR s t p false a x=z at *
  exact yZLawCkHoldsa2
 case true =>
  cases hcv:zG true a x
  ·rw [hcv] at HV
   clear HF hcv
   generalize zaR s t p true a x=z at *
   exact yZLawCkHoldsa2
  ·rw [hcv] at HV
   have hpl:=hide (check_holds_ne (s:=s) (t:=t) (p:=p) hcv)
   have hp0:=hide (zdm (s:=s) (t:=t) (p:=p) (a:=a) (x:=x))
   rw [hcv] at hp0
   clear hcv
   generalize zaR s t p true a x=z at *
   generalize zav s t p a=fa at *
   have z6:(z != 6)=true:=by have:=hpl.out.1;simpa using this
   have z7:(z != 7)=true:=by have:=hpl.out.2.1;simpa using this
   have z2:(z != 2)=true:=by have:=hpl.out.2.2;simpa using this
   by_cases hz:z=0
   ·obtain rfl:fa=0:=(hp0.out.1 hz).2
    subst hz
    exact yZLawCkHoldsa1
   ·have z0:(z==0)=false:=by simpa using hz
    have f0:(fa==0)=false:=by
     have:¬ fa=0:=fun h=>hz (hp0.out.2 ⟨rfl,h⟩)
     simpa using this
    clear hz
    exact yZLawCkHoldsa1
end Go.Proofs.YtndhahednhnnbaaGreatDoor
