/- The law FnCe -/
import Derived.Test.YtfcjhpodichpjaaGreatJ10
set_option maxHeartbeats 4000000
set_option maxRecDepth 100000
namespace Go.Proofs.YtfcjhpodichpjaaGreat
open Go Go.RowKit
theorem yZLawFoa1 {P:Prop}(h:P:=by
 have k_b1:=b1.cell
 have k_b3:=b3.cell
 go_upto_region 99 with fail
 refine (HN.out _ hcur).mono ?_
 rintro e w7 ⟨rfl,hx7⟩
 clear k_b1 k_b3
 replace b1:=b1.ext hx7
 replace b3:=b3.ext hx7
 replace hcur:=hcur.trans hx7
 have k_b1:=b1.cell
 have k_b3:=b3.cell
 go_wp2_with fail
 go_ret
 exact⟨zl (by first|(simp;done)|(simp;omega)),hx1.trans hcur⟩
 ):P:=h
theorem law_CertificateForms {A0:Option Addr} {n0 c0:Nat} {w:World}(h:Bytes w A0 n0)(hn:n0≤9223372036854775807)(hc:n0≤c0)(hc2:c0≤9223372036854775807) :
  Calls Tryz.prog 3 #[.slice A0 n0 c0] w fun e w'=>e=.returned (.bool true)∧Ext w w':=by
 have Hh:=za h
 clear h
 by_cases hbig:1048576<n0
 ·have hbig':(1048576:Int)<(n0:Int):=by omega
  go_enter Tryz.func3,Tryz.ntmps3
  go_wp2
  go_ret
  exact⟨rfl,Ext.refl _⟩
 have hbig':(n0:Int)≤1048576:=by omega
 clear hbig
 go_enter Tryz.func3,Tryz.ntmps3
 go_upto_region 4 with (first
  |(go_at_call 5;refine (zfv Hh.out hn hc hc2).mono ?_;rintro e w1 ⟨hd,a,D,q,f,D',q',f',x,rfl,ha,hbd,hx1⟩))
 clear hbig' hn hc hc2
 have hxs:=za (show x.size≤9223372036854775807 from Nat.le_trans hbd.out.2 (by omega))
 have hqn:=za (show q=a.next.length from ha.n1)
 have HA:=za (fun W (hW:Ext w1 W)=>ha.ext hW)
 have HI:=za (fun W (hW:Ext w1 W)=>zap _ _ _ _ f _ _ f' hd _ x _ (HA.out _ hW) hxs.out)
 have HN:=za (fun W (hW:Ext w1 W)=>zap _ _ _ _ f _ _ f' (!hd) _ x _ (HA.out _ hW) hxs.out)
 have HR:=za (fun W (hW:Ext w1 W)=>zaq _ _ _ _ f _ _ f' hd _ x _ (HA.out _ hW) hxs.out)
 have hfo:=za (fun h=>cert_forms (hd:=hd) (a:=a) (x:=x) h)
 have hcur:Ext w1 (w1.alloc (.cells #[.bool hd,.int .i64 a.al,.slice D q f,.slice D' q' f',.string x] 28)):=(Ext.refl _).alloc _
 have b1:=Blk.new w1 28 #[.bool hd,.int .i64 a.al,.slice D q f,.slice D' q' f',.string x]
 clear ha hbd Hh HA
 generalize w1.alloc (.cells #[.bool hd,.int .i64 a.al,.slice D q f,.slice D' q' f',.string x] 28)=w2 at *
 generalize w1.heap.size=G at *
 cases hv:zC hd a x
 case false =>
  rw [hv] at HI HR
  clear hfo hv HN
  have k_b1:=b1.cell
  go_upto_region 99 with fail
  refine (HI.out _ hcur).mono ?_
  rintro e w3 ⟨rfl,hx3⟩
  clear k_b1
  replace b1:=b1.ext hx3
  replace hcur:=hcur.trans hx3
  have k_b1:=b1.cell
  go_upto_region 99 with fail
  refine (HR.out _ hcur).mono ?_
  rintro e w4 ⟨rfl,hx4⟩
  clear k_b1
  replace b1:=b1.ext hx4
  replace hcur:=hcur.trans hx4
  have k_b1:=b1.cell
  go_upto_region 99 with fail
  refine (HR.out _ hcur).mono ?_
  rintro e w5 ⟨rfl,hx5⟩
  clear k_b1
  replace b1:=b1.ext hx5
  replace hcur:=hcur.trans hx5
  have k_b1:=b1.cell
  go_wp2_with fail
  go_ret
  exact⟨zl (by first|(simp;done)|(simp;omega)),hx1.trans hcur⟩
 case true =>
  obtain⟨hf1,hf2⟩:=hfo.out hv
  rw [hv] at HI HR
  rw [hf1] at HN
  rw [← hqn.out] at hf2
  clear hfo hv hf1 hqn
  cases hd
  case false =>
   have hq:¬ (0<(q:Int)):=by simp at hf2;omega
   clear hf2
   have k_b1:=b1.cell
   go_upto_region 99 with fail
   refine (HI.out _ hcur).mono ?_
   rintro e w3 ⟨rfl,hx3⟩
   clear k_b1
   replace b1:=b1.ext hx3
   replace hcur:=hcur.trans hx3
   have k_b1:=b1.cell
   go_upto_region 99 with fail
   refine (HR.out _ hcur).mono ?_
   rintro e w4 ⟨rfl,hx4⟩
   clear k_b1
   replace b1:=b1.ext hx4
   replace hcur:=hcur.trans hx4
   have k_b1:=b1.cell
   go_upto_region 8 with fail
   clear k_b1
   have hxa:=(Ext.refl w4).alloc (.cells #[.bool false,.int .i64 a.al,.slice D q f,.slice D' q' f',.string x] 28)
   have b2:=Blk.new w4 28 #[.bool false,.int .i64 a.al,.slice D q f,.slice D' q' f',.string x]
   have hGb2:=hcur.size
   have hLb2_b1:=b1.lt
   replace b1:=b1.ext hxa
   replace hcur:=hcur.trans hxa
   clear hxa
   generalize w4.alloc (.cells #[.bool false,.int .i64 a.al,.slice D q f,.slice D' q' f',.string x] 28)=w5 at *
   generalize w4.heap.size=Gb2 at *
   have k_b1:=b1.cell
   have k_b2:=b2.cell
   have f2:=b2.frozen
   go_upto_region 9 with fail
   clear f2
   clear k_b1 k_b2
   have b3:Blk (w5.setCell ⟨Gb2,0,none⟩ (.bool true)) Gb2 28 #[.bool true,.int .i64 a.al,.slice D q f,.slice D' q' f',.string x]:=by simpa using b2.set_ 0 (.bool true)
   replace b1:=b1.far (p:=⟨Gb2,0,none⟩) (show G≠Gb2 by omega) (.bool true)
   replace hcur:=hcur.setCell (p:=⟨Gb2,0,none⟩) (show _≤Gb2 by omega) (.bool true)
   clear b2
   generalize w5.setCell ⟨Gb2,0,none⟩ (.bool true)=w6 at *
   exact yZLawFoa1
  case true =>
   have hq:0<(q:Int):=by simp at hf2;omega
   clear hf2
   have k_b1:=b1.cell
   go_upto_region 99 with fail
   refine (HI.out _ hcur).mono ?_
   rintro e w3 ⟨rfl,hx3⟩
   clear k_b1
   replace b1:=b1.ext hx3
   replace hcur:=hcur.trans hx3
   have k_b1:=b1.cell
   go_upto_region 99 with fail
   refine (HR.out _ hcur).mono ?_
   rintro e w4 ⟨rfl,hx4⟩
   clear k_b1
   replace b1:=b1.ext hx4
   replace hcur:=hcur.trans hx4
   have k_b1:=b1.cell
   go_upto_region 8 with fail
   clear k_b1
   have hxa:=(Ext.refl w4).alloc (.cells #[.bool true,.int .i64 a.al,.slice D q f,.slice D' q' f',.string x] 28)
   have b2:=Blk.new w4 28 #[.bool true,.int .i64 a.al,.slice D q f,.slice D' q' f',.string x]
   have hGb2:=hcur.size
   have hLb2_b1:=b1.lt
   replace b1:=b1.ext hxa
   replace hcur:=hcur.trans hxa
   clear hxa
   generalize w4.alloc (.cells #[.bool true,.int .i64 a.al,.slice D q f,.slice D' q' f',.string x] 28)=w5 at *
   generalize w4.heap.size=Gb2 at *
   have k_b1:=b1.cell
   have k_b2:=b2.cell
   have f2:=b2.frozen
   go_upto_region 9 with fail
   clear f2
   clear k_b1 k_b2
   have b3:Blk (w5.setCell ⟨Gb2,0,none⟩ (.bool false)) Gb2 28 #[.bool false,.int .i64 a.al,.slice D q f,.slice D' q' f',.string x]:=by simpa using b2.set_ 0 (.bool false)
   replace b1:=b1.far (p:=⟨Gb2,0,none⟩) (show G≠Gb2 by omega) (.bool false)
   replace hcur:=hcur.setCell (p:=⟨Gb2,0,none⟩) (show _≤Gb2 by omega) (.bool false)
   clear b2
   generalize w5.setCell ⟨Gb2,0,none⟩ (.bool false)=w6 at *
   exact yZLawFoa1
end Go.Proofs.YtfcjhpodichpjaaGreat
