/- The law FnCheckSound, walked: it answers true, and leaves all old memory as it was; printed by gen_lawck.py. -/
import Derived.Test.YtndhahednhnnbaaGreatDoorG15
import Derived.Test.YtndhahednhnnbaaGreatDoorG01
namespace Go.Proofs.YtndhahednhnnbaaGreatDoor
open Go Go.RowKit
set_option maxHeartbeats 4000000
set_option maxRecDepth 100000 in
theorem law_CheckSound {A0:Option Addr} {n0 c0:Nat} {w:World}(h:Bytes w A0 n0)(hn:n0≤9223372036854775807)(hc:n0≤c0)(hc2:c0≤9223372036854775807)(hT:Tab w) :
  Calls Tryz.prog 11 #[.slice A0 n0 c0] w fun e w'=>e=.returned (.bool true)∧Ext w w':=by
 have Hh:=hide h
 have HT:=hide (fun W (hW:Ext w W)=>hT.ext hW)
 clear h hT
 by_cases hbig:1048576<n0
 ·have hbig':(1048576:Int)<(n0:Int):=by omega
  go_enter Tryz.func11,Tryz.ntmps11
  go_wp2
  go_ret
  exact⟨rfl,Ext.refl _⟩
 have hbig':(n0:Int)≤1048576:=by omega
 clear hbig
 go_enter Tryz.func11,Tryz.ntmps11
 go_upto_region 4 with (first
  |(go_at_call 24;refine (zgI Hh.out hn hc hc2).mono ?_;rintro e w1 ⟨s,A,n,c,t,C,k,c2,p,B,m,d,B',m',d',hd,a,D,q,f,D',q',f',x,rfl,⟨hs,ht,hp,ha⟩,hsz,hx1⟩))
 clear hbig' hn hc hc2
 have Hsz:=hide hsz.out
 have hxs:=hide (show x.size≤9223372036854775807 from Nat.le_trans Hsz.out.2.2.2 (by omega))
 have HS:=hide (fun W (hW:Ext w1 W)=>hs.ext hW)
 have HU:=hide (fun W (hW:Ext w1 W)=>ht.ext hW)
 have HP:=hide (fun W (hW:Ext w1 W)=>hp.ext hW)
 have HA:=hide (fun W (hW:Ext w1 W)=>ha.ext hW)
 have HTw:=hide (fun W (hW:Ext w1 W)=>HT.out W (hx1.trans hW))
 have hcur:Ext w1 ((((w1.alloc (.cells #[.int .i64 s.al,.int .i64 s.st,.slice A n c] 39)).alloc (.cells #[.int .i64 t.al,.int .i64 t.st,.slice C k c2] 39)).alloc (.cells #[.int .i64 p.al,.slice B m d,.slice B' m' d'] 27)).alloc (.cells #[.bool hd,.int .i64 a.al,.slice D q f,.slice D' q' f',.string x] 45)):=((((Ext.refl _).alloc _).alloc _).alloc _).alloc _
 obtain⟨b1,b2,b3,b4⟩:=zeJ (Ext.refl ((((w1.alloc (.cells #[.int .i64 s.al,.int .i64 s.st,.slice A n c] 39)).alloc (.cells #[.int .i64 t.al,.int .i64 t.st,.slice C k c2] 39)).alloc (.cells #[.int .i64 p.al,.slice B m d,.slice B' m' d'] 27)).alloc (.cells #[.bool hd,.int .i64 a.al,.slice D q f,.slice D' q' f',.string x] 45)))
 clear hs ht hp ha hsz Hh HT
 generalize (((w1.alloc (.cells #[.int .i64 s.al,.int .i64 s.st,.slice A n c] 39)).alloc (.cells #[.int .i64 t.al,.int .i64 t.st,.slice C k c2] 39)).alloc (.cells #[.int .i64 p.al,.slice B m d,.slice B' m' d'] 27)).alloc (.cells #[.bool hd,.int .i64 a.al,.slice D q f,.slice D' q' f',.string x] 45)=w2 at *
 generalize w1.heap.size=G at *
 have cS:=b1.cells
 have cT:=b2.cells
 have cP:=b3.cells
 have cC:=b4.cells
 have cPa:∀ W o,Ext w2 W→∀ j,(W.alloc o).cell? ⟨G+1+1,j,none⟩=#[Value.int .i64 p.al,.slice B m d,.slice B' m' d'][j]?:=fun W o hW=>(b3.ext (hW.alloc o)).cell
 have cCa:∀ W o,Ext w2 W→∀ j,(W.alloc o).cell? ⟨G+1+1+1,j,none⟩=#[Value.bool hd,.int .i64 a.al,.slice D q f,.slice D' q' f',.string x][j]?:=fun W o hW=>(b4.ext (hW.alloc o)).cell
 have h2:=Ext.refl w2
 clear b1 b2 b3 b4
 have HI:=hide (fun W (hW:Ext w1 W)=>impl_CheckCertificate (c:=c) (d1:=d) (d1':=d') (c2:=c2) (d2:=f) (d2':=f') (hd:=hd) (x:=x) (HS.out _ hW) (HU.out _ hW) (HP.out _ hW) (HA.out _ hW) hxs.out (HTw.out _ hW))
 have HR:=hide (fun W (hW:Ext w1 W)=>spec_CheckCertificate (c:=c) (d1:=d) (d1':=d') (c2:=c2) (d2:=f) (d2':=f') (hd:=hd) (x:=x) (HS.out _ hW) (HU.out _ hW) (HP.out _ hW) (HA.out _ hW) hxs.out)
 have HV:=hide (fun W (hW:Ext w1 W)=>zdt _ _ _ _ f _ _ f' hd _ x _ (HA.out _ hW) hxs.out)
 have HL:=hide (fun W (hW:Ext w1 W)=>show Calls Tryz.prog 22 #[.slice (some ⟨W.heap.size,0,none⟩) 2 2,.agg #[.int .i64 p.al,.slice B m d,.slice B' m' d']] (W.alloc (.cells #[.int .i64 s.al,.int .i64 s.st,.slice A n c,.int .i64 t.al,.int .i64 t.st,.slice C k c2] 39)) (fun e w'=>e=.returned (.bool (zaP [s,t] p))∧Ext (W.alloc (.cells #[.int .i64 s.al,.int .i64 s.st,.slice A n c,.int .i64 t.al,.int .i64 t.st,.slice C k c2] 39)) w') from by
  have hx:=(Ext.refl W).alloc (.cells #[.int .i64 s.al,.int .i64 s.st,.slice A n c,.int .i64 t.al,.int .i64 t.st,.slice C k c2] 39)
  obtain⟨lo,hi,hsl⟩:=zdW (Blk.new W 39 #[.int .i64 s.al,.int .i64 s.st,.slice A n c,.int .i64 t.al,.int .i64 t.st,.slice C k c2]) ((HS.out _ hW).ext hx) ((HU.out _ hW).ext hx)
  exact zgG (c:=2) (d2:=d) (d2':=d') hsl (HP.out _ (hW.trans hx)) (HTw.out _ (hW.trans hx)))
 by_cases hz:zaR s t p hd a x=0
 case neg =>
  have z0:(zaR s t p hd a x != 0)=true:=by simpa using hz
  generalize zaR s t p hd a x=z at *
  clear hz HL
  go_wp2_with (first
   |(go_at_call 25;with_reducible refine (HI.out _ hcur).mono ?_;rintro e wz ⟨rfl,hz⟩;replace hcur:=hcur.trans hz;replace h2:=h2.trans hz;clear hz)
   |(go_at_call 26;with_reducible refine (HR.out _ hcur).mono ?_;rintro e wz ⟨rfl,hz⟩;replace hcur:=hcur.trans hz;replace h2:=h2.trans hz;clear hz)
   |(go_at_call 27;with_reducible refine (HV.out _ hcur).mono ?_;rintro e wz ⟨rfl,hz⟩;replace hcur:=hcur.trans hz;replace h2:=h2.trans hz;clear hz))
  go_ret
  exact⟨zi (by simp),hx1.trans hcur⟩
 case pos =>
  have hkp:=hide (check_sound hz)
  rw [hz] at HI HR
  rw [hkp.out] at HL
  clear hz hkp
  go_upto_region 7 with (first
   |(go_at_call 25;with_reducible refine (HI.out _ hcur).mono ?_;rintro e wz ⟨rfl,hz⟩;replace hcur:=hcur.trans hz;replace h2:=h2.trans hz;clear hz)
   |(go_at_call 26;with_reducible refine (HR.out _ hcur).mono ?_;rintro e wz ⟨rfl,hz⟩;replace hcur:=hcur.trans hz;replace h2:=h2.trans hz;clear hz)
   |(go_at_call 27;with_reducible refine (HV.out _ hcur).mono ?_;rintro e wz ⟨rfl,hz⟩;replace hcur:=hcur.trans hz;replace h2:=h2.trans hz;clear hz))
  have hde:Ext w1 wz.drew:=hcur.drew
  have hd2:Ext w2 wz.drew:=h2.drew
  refine uR (fun X=>Ext w2 X) [] (OrdU.of [0,1,3,5,6,2,4,7,8]) ?_
  refine uQ ?_
  generalize wz.drew=wd at *
  (refine zb rfl rfl rfl (fun K hK=>?_);go_simp)
  refine hK.out _ _ (hd2.alloc _) ?_
  refine pT ?_
  (refine zb rfl rfl rfl (fun K hK=>?_);go_simp)
  refine (HL.out _ hde).mono ?_
  rintro e wy ⟨rfl,hy⟩
  have hy2:Ext w2 wy:=(hd2.alloc _).trans hy
  have hy1:Ext w1 wy:=(hde.alloc _).trans hy
  refine hK.out _ _ hy2 ?_
  refine pT ?_
  refine uQ ?_
  refine zd ?_
  go_wp2_with fail
  go_ret
  exact⟨zi (by simp),hx1.trans hy1⟩
end Go.Proofs.YtndhahednhnnbaaGreatDoor
