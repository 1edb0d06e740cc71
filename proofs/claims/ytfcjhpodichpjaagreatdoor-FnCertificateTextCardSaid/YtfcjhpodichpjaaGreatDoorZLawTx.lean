/- The law FnCe -/
import Derived.Lib.TrailingZeros
import Derived.Shelf.Spec.TrailingZeros
import Derived.Test.YtfcjhpodichpjaaGreatDoorU11
import Derived.Test.YtfcjhpodichpjaaGreatDoorU12
import Derived.Test.YtfcjhpodichpjaaGreatDoorU01
set_option maxHeartbeats 4000000
set_option maxRecDepth 100000
namespace Go.Proofs.YtfcjhpodichpjaaGreatDoor
open Go Go.RowKit
theorem yZLawTxa1 {P:Prop}(h:P:=by
 have k_b1:=b1.cell
 have k_b5:=b5.cell
 have k_b6:=b6.cell
 have k_b7:=b7.cell
 go_wp2_with fail
 go_ret
 exact⟨zm (by first|(simp;done)|(simp;omega)),hx1.trans hcur⟩
 ):P:=h
theorem yZLawTxa2 {P:Prop}(h:P:=by
 have k_b1:=b1.cell
 have k_b6:=b6.cell
 have k_b7:=b7.cell
 go_wp2_with fail
 go_ret
 exact⟨zm (by first|(simp;done)|(simp;omega)),hx1.trans hcur⟩
 ):P:=h
theorem law_CertificateText {A0 A9:Option Addr} {n0 c0 n9 c9:Nat} {w:World}(h:Bytes w A0 n0)(hn:n0≤9223372036854775807)(hc:n0≤c0)(hc2:c0≤9223372036854775807) (g:Bytes w A9 n9) (gn:n9≤9223372036854775807) (gc:n9≤c9) (gc2:c9≤9223372036854775807)(hE:Sent w) :
  Calls Tryz.prog 3 #[.slice A0 n0 c0,.slice A9 n9 c9] w fun e w'=>e=.returned (.bool true)∧Ext w w':=by
 have Hh:=za h
 have Hg:=za (fun W (hW:Ext w W)=>g.ext hW)
 have HE:=za (fun W (hW:Ext w W)=>hE.ext hW)
 clear h g hE
 by_cases hbig:1048576<n0
 ·have hbig':(1048576:Int)<(n0:Int):=by omega
  go_enter Tryz.func3,Tryz.ntmps3
  go_wp2
  go_ret
  exact⟨rfl,Ext.refl _⟩
 have hbig':(n0:Int)≤1048576:=by omega
 clear hbig
 by_cases hbig:1048576<n9
 ·have hbig9:(1048576:Int)<(n9:Int):=by omega
  go_enter Tryz.func3,Tryz.ntmps3
  go_wp2
  go_ret
  exact⟨rfl,Ext.refl _⟩
 have hbig9:(n9:Int)≤1048576:=by omega
 clear hbig
 go_enter Tryz.func3,Tryz.ntmps3
 go_upto_region 4 with (first
  |(go_at_call 6;refine (zgc Hh.out hn hc hc2).mono ?_;rintro e w1 ⟨hd,a,D,q,f,D',q',f',x,rfl,ha,hbd,hx1⟩))
 clear hbig' hbig9 hn hc hc2 Hh
 have hx5:=za hbd.out.2
 have hxs:=za (show x.size≤9223372036854775807 from Nat.le_trans hx5.out (by omega))
 have HA:=za (fun W (hW:Ext w1 W)=>ha.ext hW)
 have HEw:=za (fun W (hW:Ext w1 W)=>HE.out W (hx1.trans hW))
 have HB:=za (fun W (hW:Ext w1 W)=>Hg.out W (hx1.trans hW))
 have HV:=za (fun W (hW:Ext w1 W)=>zcN _ _ _ _ f _ _ f' hd _ x _ (HA.out _ hW) hxs.out)
 have HW:=za (fun W (hW:Ext w1 W)=>zag _ _ _ _ f _ _ f' hd _ x _ (HA.out _ hW) hxs.out)
 have HF:=za (fun W (hW:Ext w1 W)=>zam (c:=f) (c':=f') (hd:=hd) (s:=x) (HA.out _ hW) (Nat.le_trans hx5.out (by omega)))
 have HG:=za (fun W (hW:Ext w1 W)=>zao (c:=f) (c':=f') (hd:=hd) (s:=x) (HA.out _ hW) (Nat.le_trans hx5.out (by omega)))
 have hlen:=za (show (zea hd a x).length≤2000000 from Nat.le_trans (txtC_short hd a x) (by have:=hx5.out;omega))
 have hcv:=za (fun (y:ByteArray) (hy:y.data.toList=zea hd a x) (hv:zw hd a x=true)=>show zgM y true hd a x from .inl ⟨rfl,hv,hy.symm⟩)
 have hne:=za (fun (y:ByteArray) (hy:y.data.toList=zea hd a x)=>show y.toList.isEmpty=!zw hd a x from by
  rw [ByteArray.toList_eq,hy]
  cases hv:zw hd a x
  ·rw [txtC_no hv];rfl
  ·have:=cert_ne hv
   cases hl:zea hd a x
   ·exact absurd hl this
   ·rfl)
 have hcur:Ext w1 (w1.alloc (.cells #[.bool hd,.int .i64 a.al,.slice D q f,.slice D' q' f',.string x] 28)):=(Ext.refl _).alloc _
 have b1:=Blk.new w1 28 #[.bool hd,.int .i64 a.al,.slice D q f,.slice D' q' f',.string x]
 clear ha hbd HE Hg
 generalize w1.alloc (.cells #[.bool hd,.int .i64 a.al,.slice D q f,.slice D' q' f',.string x] 28)=w2 at *
 generalize w1.heap.size=G at *
 obtain⟨cv,hcvx⟩:∃ cv,Hid (zw hd a x=cv):=⟨_,za rfl⟩
 rw [hcvx.out] at HV HW hne
 have k_b1:=b1.cell
 go_upto_region 99 with fail
 refine (HF.out _ hcur).mono ?_
 rintro e w3 ⟨y,rfl,hy,hx3⟩
 clear k_b1
 replace b1:=b1.ext hx3
 replace hcur:=hcur.trans hx3
 have k_b1:=b1.cell
 go_upto_region 99 with fail
 refine (HV.out _ hcur).mono ?_
 rintro e w4 ⟨rfl,hx4⟩
 clear k_b1
 replace b1:=b1.ext hx4
 replace hcur:=hcur.trans hx4
 have k_b1:=b1.cell
 go_upto_region 99 with fail
 refine (HG.out _ hcur).mono ?_
 rintro e w5 ⟨y2,rfl,hy2,hx5'⟩
 clear k_b1
 replace b1:=b1.ext hx5'
 replace hcur:=hcur.trans hx5'
 obtain rfl:y2=y:=tx_eq (hy2.out.trans hy.out.symm)
 have hey:=hne.out y2 hy.out
 have hys:y2.size≤2000000:=by rw [zcZ hy.out];exact hlen.out
 cases hv:cv
 case false =>
  have hey0:y2.toList.isEmpty=true:=by rw [hey,hv];rfl
  subst hv
  have k_b1:=b1.cell
  go_upto_region 99 with fail
  refine (HW.out _ hcur).mono ?_
  rintro e w6 ⟨rfl,hx6'⟩
  clear k_b1
  replace b1:=b1.ext hx6'
  replace hcur:=hcur.trans hx6'
  have HBc:=HB.out _ hcur
  have k_b1:=b1.cell
  go_upto_region 99 with fail
  refine (zgj HBc gn gc gc2).mono ?_
  rintro e wa ⟨z,rfl,hz,hxa⟩
  clear k_b1
  replace b1:=b1.ext hxa
  replace hcur:=hcur.trans hxa
  have hz2:z.size≤2000000:=by omega
  have k_b1:=b1.cell
  go_upto_region 99 with fail
  refine (impl_ParseCertificateX hz2 (HEw.out _ hcur)).mono ?_
  rintro e wb ⟨ok6,hd6,a6,A6,n6,c6,B6,m6,d6,t6,rfl,own6,hp6,hx6⟩
  clear k_b1
  replace b1:=b1.ext hx6
  replace hcur:=hcur.trans hx6
  have r6:=own6.reads
  clear own6
  have k_b1:=b1.cell
  go_upto_region 14 with fail
  clear k_b1
  have hxa:=(Ext.refl wb).alloc (.cells #[.bool hd6,.int .i64 a6.al,.slice A6 n6 c6,.slice B6 m6 d6,.string t6] 28)
  have b6:=Blk.new wb 28 #[.bool hd6,.int .i64 a6.al,.slice A6 n6 c6,.slice B6 m6 d6,.string t6]
  have hGb6:=hcur.size
  have hLb6_b1:=b1.lt
  replace b1:=b1.ext hxa
  replace r6:=r6.ext hxa
  replace hcur:=hcur.trans hxa
  clear hxa
  generalize wb.alloc (.cells #[.bool hd6,.int .i64 a6.al,.slice A6 n6 c6,.slice B6 m6 d6,.string t6] 28)=wc at *
  generalize wb.heap.size=Gb6 at *
  have k_b1:=b1.cell
  have k_b6:=b6.cell
  go_upto_region 99 with fail
  refine (spec_ParseCertificateX hz2).mono ?_
  rintro e wd ⟨ok7,hd7,a7,A7,n7,c7,B7,m7,d7,t7,rfl,own7,hp7,hx7⟩
  clear k_b1 k_b6
  replace b1:=b1.ext hx7
  replace b6:=b6.ext hx7
  replace r6:=r6.ext hx7
  replace hcur:=hcur.trans hx7
  have r7:=own7.reads
  clear own7
  obtain⟨e1,e2,e3,e4⟩:=hp6.out.same hp7.out
  subst e1
  subst e2
  subst e3
  subst e4
  clear hp7
  have k_b1:=b1.cell
  have k_b6:=b6.cell
  go_upto_region 15 with fail
  clear k_b1 k_b6
  have hxa:=(Ext.refl wd).alloc (.cells #[.bool hd6,.int .i64 a6.al,.slice A7 n7 c7,.slice B7 m7 d7,.string t6] 28)
  have b7:=Blk.new wd 28 #[.bool hd6,.int .i64 a6.al,.slice A7 n7 c7,.slice B7 m7 d7,.string t6]
  have hGb7:=hcur.size
  have hLb7_b1:=b1.lt
  have hLb7_b6:=b6.lt
  replace b1:=b1.ext hxa
  replace b6:=b6.ext hxa
  replace r6:=r6.ext hxa
  replace r7:=r7.ext hxa
  replace hcur:=hcur.trans hxa
  clear hxa
  generalize wd.alloc (.cells #[.bool hd6,.int .i64 a6.al,.slice A7 n7 c7,.slice B7 m7 d7,.string t6] 28)=we at *
  generalize wd.heap.size=Gb7 at *
  have hee:(ok6==ok6)=true:=by cases ok6<;>rfl
  have k_b1:=b1.cell
  have k_b6:=b6.cell
  have k_b7:=b7.cell
  go_upto_region 99 with fail
  refine (agCert_same (hd:=hd6) (x:=t6) r6 r7).mono ?_
  rintro e wf ⟨rfl,hx8⟩
  clear k_b1 k_b6 k_b7
  replace b1:=b1.ext hx8
  replace b6:=b6.ext hx8
  replace b7:=b7.ext hx8
  replace r6:=r6.ext hx8
  replace r7:=r7.ext hx8
  replace hcur:=hcur.trans hx8
  cases ok6
  case false =>
   exact yZLawTxa2
  case true =>
   obtain⟨hvz,htz⟩:zw hd6 a6 t6=true∧zea hd6 a6 t6=z.data.toList:=by
    rcases hp6.out with h|h
    ·exact h.2
    ·exact absurd h.1 (by decide)
   have ht6:t6.size≤2000000:=by
    have h1:=congrArg List.length htz
    have h2:z.data.toList.length=z.size:=rfl
    have h3:=txtC_word hvz
    omega
   have k_b1:=b1.cell
   have k_b6:=b6.cell
   have k_b7:=b7.cell
   go_upto_region 99 with fail
   refine (zam (hd:=hd6) r6 ht6).mono ?_
   rintro e wg ⟨v,rfl,hv9,hx9⟩
   clear k_b1 k_b6 k_b7
   replace b1:=b1.ext hx9
   replace b6:=b6.ext hx9
   replace b7:=b7.ext hx9
   replace r6:=r6.ext hx9
   replace r7:=r7.ext hx9
   replace hcur:=hcur.trans hx9
   obtain rfl:v=z:=tx_eq (hv9.out.trans htz)
   have hzz:(v.toList==v.toList)=true:=by simp
   exact yZLawTxa2
 case true =>
  have hey0:y2.toList.isEmpty=false:=by rw [hey,hv];rfl
  subst hv
  have k_b1:=b1.cell
  go_upto_region 99 with fail
  refine (HW.out _ hcur).mono ?_
  rintro e w6 ⟨rfl,hx6'⟩
  clear k_b1
  replace b1:=b1.ext hx6'
  replace hcur:=hcur.trans hx6'
  have k_b1:=b1.cell
  go_upto_region 99 with fail
  refine (impl_ParseCertificateX hys (HEw.out _ hcur)).mono ?_
  rintro e w7 ⟨ok5,hd5,a5,A5,n5,c5,B5,m5,d5,t5,rfl,own5,hp5,hx7'⟩
  clear k_b1
  replace b1:=b1.ext hx7'
  replace hcur:=hcur.trans hx7'
  have r5:=own5.reads
  clear own5
  obtain⟨e1,e2,e3,e4⟩:=(hcv.out y2 hy.out hcvx.out).same hp5.out
  subst e1
  subst e2
  subst e3
  subst e4
  clear hp5
  have r1:=HA.out _ hcur
  have k_b1:=b1.cell
  go_upto_region 10 with fail
  clear k_b1
  have hxa:=(Ext.refl w7).alloc (.cells #[.bool hd,.int .i64 a.al,.slice A5 n5 c5,.slice B5 m5 d5,.string x] 28)
  have b5:=Blk.new w7 28 #[.bool hd,.int .i64 a.al,.slice A5 n5 c5,.slice B5 m5 d5,.string x]
  have hGb5:=hcur.size
  have hLb5_b1:=b1.lt
  replace b1:=b1.ext hxa
  replace r5:=r5.ext hxa
  replace r1:=r1.ext hxa
  replace hcur:=hcur.trans hxa
  clear hxa
  generalize w7.alloc (.cells #[.bool hd,.int .i64 a.al,.slice A5 n5 c5,.slice B5 m5 d5,.string x] 28)=w8 at *
  generalize w7.heap.size=Gb5 at *
  have k_b1:=b1.cell
  have k_b5:=b5.cell
  go_upto_region 99 with fail
  refine (agCert_same (hd:=hd) (x:=x) r5 r1).mono ?_
  rintro e w9 ⟨rfl,hx9'⟩
  clear k_b1 k_b5
  replace b1:=b1.ext hx9'
  replace b5:=b5.ext hx9'
  replace r5:=r5.ext hx9'
  replace r1:=r1.ext hx9'
  replace hcur:=hcur.trans hx9'
  have HBc:=HB.out _ hcur
  have k_b1:=b1.cell
  have k_b5:=b5.cell
  go_upto_region 99 with fail
  refine (zgj HBc gn gc gc2).mono ?_
  rintro e wa ⟨z,rfl,hz,hxa⟩
  clear k_b1 k_b5
  replace b1:=b1.ext hxa
  replace b5:=b5.ext hxa
  replace r5:=r5.ext hxa
  replace r1:=r1.ext hxa
  replace hcur:=hcur.trans hxa
  have hz2:z.size≤2000000:=by omega
  have k_b1:=b1.cell
  have k_b5:=b5.cell
  go_upto_region 99 with fail
  refine (impl_ParseCertificateX hz2 (HEw.out _ hcur)).mono ?_
  rintro e wb ⟨ok6,hd6,a6,A6,n6,c6,B6,m6,d6,t6,rfl,own6,hp6,hx6⟩
  clear k_b1 k_b5
  replace b1:=b1.ext hx6
  replace b5:=b5.ext hx6
  replace r5:=r5.ext hx6
  replace r1:=r1.ext hx6
  replace hcur:=hcur.trans hx6
  have r6:=own6.reads
  clear own6
  have k_b1:=b1.cell
  have k_b5:=b5.cell
  go_upto_region 14 with fail
  clear k_b1 k_b5
  have hxa:=(Ext.refl wb).alloc (.cells #[.bool hd6,.int .i64 a6.al,.slice A6 n6 c6,.slice B6 m6 d6,.string t6] 28)
  have b6:=Blk.new wb 28 #[.bool hd6,.int .i64 a6.al,.slice A6 n6 c6,.slice B6 m6 d6,.string t6]
  have hGb6:=hcur.size
  have hLb6_b1:=b1.lt
  have hLb6_b5:=b5.lt
  replace b1:=b1.ext hxa
  replace b5:=b5.ext hxa
  replace r5:=r5.ext hxa
  replace r1:=r1.ext hxa
  replace r6:=r6.ext hxa
  replace hcur:=hcur.trans hxa
  clear hxa
  generalize wb.alloc (.cells #[.bool hd6,.int .i64 a6.al,.slice A6 n6 c6,.slice B6 m6 d6,.string t6] 28)=wc at *
  generalize wb.heap.size=Gb6 at *
  have k_b1:=b1.cell
  have k_b5:=b5.cell
  have k_b6:=b6.cell
  go_upto_region 99 with fail
  refine (spec_ParseCertificateX hz2).mono ?_
  rintro e wd ⟨ok7,hd7,a7,A7,n7,c7,B7,m7,d7,t7,rfl,own7,hp7,hx7⟩
  clear k_b1 k_b5 k_b6
  replace b1:=b1.ext hx7
  replace b5:=b5.ext hx7
  replace b6:=b6.ext hx7
  replace r5:=r5.ext hx7
  replace r1:=r1.ext hx7
  replace r6:=r6.ext hx7
  replace hcur:=hcur.trans hx7
  have r7:=own7.reads
  clear own7
  obtain⟨e1,e2,e3,e4⟩:=hp6.out.same hp7.out
  subst e1
  subst e2
  subst e3
  subst e4
  clear hp7
  have k_b1:=b1.cell
  have k_b5:=b5.cell
  have k_b6:=b6.cell
  go_upto_region 15 with fail
  clear k_b1 k_b5 k_b6
  have hxa:=(Ext.refl wd).alloc (.cells #[.bool hd6,.int .i64 a6.al,.slice A7 n7 c7,.slice B7 m7 d7,.string t6] 28)
  have b7:=Blk.new wd 28 #[.bool hd6,.int .i64 a6.al,.slice A7 n7 c7,.slice B7 m7 d7,.string t6]
  have hGb7:=hcur.size
  have hLb7_b1:=b1.lt
  have hLb7_b5:=b5.lt
  have hLb7_b6:=b6.lt
  replace b1:=b1.ext hxa
  replace b5:=b5.ext hxa
  replace b6:=b6.ext hxa
  replace r5:=r5.ext hxa
  replace r1:=r1.ext hxa
  replace r6:=r6.ext hxa
  replace r7:=r7.ext hxa
  replace hcur:=hcur.trans hxa
  clear hxa
  generalize wd.alloc (.cells #[.bool hd6,.int .i64 a6.al,.slice A7 n7 c7,.slice B7 m7 d7,.string t6] 28)=we at *
  generalize wd.heap.size=Gb7 at *
  have hee:(ok6==ok6)=true:=by cases ok6<;>rfl
  have k_b1:=b1.cell
  have k_b5:=b5.cell
  have k_b6:=b6.cell
  have k_b7:=b7.cell
  go_upto_region 99 with fail
  refine (agCert_same (hd:=hd6) (x:=t6) r6 r7).mono ?_
  rintro e wf ⟨rfl,hx8⟩
  clear k_b1 k_b5 k_b6 k_b7
  replace b1:=b1.ext hx8
  replace b5:=b5.ext hx8
  replace b6:=b6.ext hx8
  replace b7:=b7.ext hx8
  replace r5:=r5.ext hx8
  replace r1:=r1.ext hx8
  replace r6:=r6.ext hx8
  replace r7:=r7.ext hx8
  replace hcur:=hcur.trans hx8
  cases ok6
  case false =>
   exact yZLawTxa1
  case true =>
   obtain⟨hvz,htz⟩:zw hd6 a6 t6=true∧zea hd6 a6 t6=z.data.toList:=by
    rcases hp6.out with h|h
    ·exact h.2
    ·exact absurd h.1 (by decide)
   have ht6:t6.size≤2000000:=by
    have h1:=congrArg List.length htz
    have h2:z.data.toList.length=z.size:=rfl
    have h3:=txtC_word hvz
    omega
   have k_b1:=b1.cell
   have k_b5:=b5.cell
   have k_b6:=b6.cell
   have k_b7:=b7.cell
   go_upto_region 99 with fail
   refine (zam (hd:=hd6) r6 ht6).mono ?_
   rintro e wg ⟨v,rfl,hv9,hx9⟩
   clear k_b1 k_b5 k_b6 k_b7
   replace b1:=b1.ext hx9
   replace b5:=b5.ext hx9
   replace b6:=b6.ext hx9
   replace b7:=b7.ext hx9
   replace r5:=r5.ext hx9
   replace r1:=r1.ext hx9
   replace r6:=r6.ext hx9
   replace r7:=r7.ext hx9
   replace hcur:=hcur.trans hx9
   obtain rfl:v=z:=tx_eq (hv9.out.trans htz)
   have hzz:(v.toList==v.toList)=true:=by simp
   exact yZLawTxa1
end Go.Proofs.YtfcjhpodichpjaaGreatDoor
