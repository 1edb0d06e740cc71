/- The law FnCe -/
import Derived.Test.YtfcjhpodichpjaaGreatJ11
import Derived.Test.YtfcjhpodichpjaaGreatJ10
set_option maxHeartbeats 4000000
set_option maxRecDepth 100000
namespace Go.Proofs.YtfcjhpodichpjaaGreat
open Go Go.RowKit
theorem yZLawCob1 {P:Prop}(h:P:=by
 have k_b1:=b1.cell
 have k_c3:=c3.cell
 have k_c5:=c5.cell
 go_wp2_with fail
 go_ret
 exact⟨zl (by first|(simp;done)|(simp;omega)),hx1.trans hcur⟩
 ):P:=h
theorem yZLawCoa1 {P:Prop}(h:P:=by
 rw [HG.out]
 rintro e w8 ⟨rfl,hx8⟩
 clear k_b1 k_c3 k_c5
 replace b1:=b1.ext hx8
 replace c3:=c3.ext hx8
 replace c5:=c5.ext hx8
 replace r3:=r3.ext hx8
 replace r5:=r5.ext hx8
 replace hcur:=hcur.trans hx8
 have r1:=HA.out _ hcur
 clear HA
 have k_b1:=b1.cell
 have k_c3:=c3.cell
 have k_c5:=c5.cell
 go_upto_region 99 with fail
 refine (zeO r3 r1).mono ?_
 rintro e w9 ⟨rfl,hx9⟩
 clear k_b1 k_c3 k_c5
 replace b1:=b1.ext hx9
 replace c3:=c3.ext hx9
 replace c5:=c5.ext hx9
 replace r3:=r3.ext hx9
 replace r5:=r5.ext hx9
 replace r1:=r1.ext hx9
 replace hcur:=hcur.trans hx9
 exact yZLawCob1
 ):P:=h
theorem law_CertificateOf {A0:Option Addr} {n0 c0:Nat} {w:World}(h:Bytes w A0 n0)(hn:n0≤9223372036854775807)(hc:n0≤c0)(hc2:c0≤9223372036854775807) :
  Calls Tryz.prog 4 #[.slice A0 n0 c0] w fun e w'=>e=.returned (.bool true)∧Ext w w':=by
 have Hh:=za h
 clear h
 by_cases hbig:1048576<n0
 ·have hbig':(1048576:Int)<(n0:Int):=by omega
  go_enter Tryz.func4,Tryz.ntmps4
  go_wp2
  go_ret
  exact⟨rfl,Ext.refl _⟩
 have hbig':(n0:Int)≤1048576:=by omega
 clear hbig
 go_enter Tryz.func4,Tryz.ntmps4
 go_upto_region 4 with (first
  |(go_at_call 8;refine (spec_DrawCertificateOf Hh.out hn hc hc2).mono ?_;rintro e w1 ⟨cd,a,D,q,f,D',q',f',x,ro,rfl,ha,hbd,hx1⟩))
 clear hbig' hn hc hc2
 have hxs:=za (show x.size≤9223372036854775807 from Nat.le_trans hbd.out.2 (by omega))
 have has:=za (show a.size≤1048576 from Nat.le_trans (hbd.out.1.size (by omega)) (by omega))
 have HA:=za (fun W (hW:Ext w1 W)=>ha.ext hW)
 have HC:=za (fun W (hW:Ext w1 W)=>impl_CertificateOf (c:=f) (c':=f') (cd:=cd) (ro:=ro) (HA.out _ hW) has.out hxs.out)
 have HD:=za (fun W (hW:Ext w1 W)=>zdJ (c:=f) (c':=f') (cd:=cd) (ro:=ro) (HA.out _ hW) has.out hxs.out)
 have hco:=za (fun h=>cert_of (cd:=cd) (a:=a) (x:=x) h)
 have hcur:Ext w1 (w1.alloc (.cells #[.int .i64 cd,.int .i64 a.al,.slice D q f,.slice D' q' f',.string x,.int .i64 ro] 33)):=(Ext.refl _).alloc _
 have b1:=Blk.new w1 33 #[.int .i64 cd,.int .i64 a.al,.slice D q f,.slice D' q' f',.string x,.int .i64 ro]
 clear ha hbd Hh
 generalize w1.alloc (.cells #[.int .i64 cd,.int .i64 a.al,.slice D q f,.slice D' q' f',.string x,.int .i64 ro] 33)=w2 at *
 generalize w1.heap.size=G at *
 obtain⟨hX,hhX⟩:∃ z,Hid (hdX cd a x=z):=⟨_,za rfl⟩
 obtain⟨aX,haX⟩:∃ z,Hid (zed cd a x=z):=⟨_,za rfl⟩
 obtain⟨sX,hsX⟩:∃ z,Hid (zem cd a x=z):=⟨_,za rfl⟩
 obtain⟨ok,hok⟩:∃ z,Hid (okC cd a x=z):=⟨_,za rfl⟩
 rw [hhX.out,haX.out,hsX.out,hok.out] at HC HD
 cases hk:ok
 case false =>
  subst hk
  clear hco hhX haX hsX hok HA
  have k_b1:=b1.cell
  go_upto_region 99 with fail
  refine (HC.out _ hcur).mono ?_
  rintro e w3 ⟨D3,q3,f3,D3',q3',f3',rfl,o3,hx3⟩
  clear k_b1
  replace b1:=b1.ext hx3
  replace hcur:=hcur.trans hx3
  have r3:=o3.reads
  clear o3
  have k_b1:=b1.cell
  go_upto_region 5 with fail
  clear k_b1
  have hxa:=(Ext.refl w3).alloc (.cells #[.bool hX,.int .i64 aX.al,.slice D3 q3 f3,.slice D3' q3' f3',.string sX] 28)
  have c3:=Blk.new w3 28 #[.bool hX,.int .i64 aX.al,.slice D3 q3 f3,.slice D3' q3' f3',.string sX]
  have hGc3:=hcur.size
  have hLc3_b1:=b1.lt
  replace b1:=b1.ext hxa
  replace r3:=r3.ext hxa
  replace hcur:=hcur.trans hxa
  clear hxa
  generalize w3.alloc (.cells #[.bool hX,.int .i64 aX.al,.slice D3 q3 f3,.slice D3' q3' f3',.string sX] 28)=w4 at *
  generalize w3.heap.size=Gc3 at *
  have k_b1:=b1.cell
  have k_c3:=c3.cell
  go_upto_region 99 with fail
  refine (HD.out _ hcur).mono ?_
  rintro e w5 ⟨D5,q5,f5,D5',q5',f5',rfl,o5,hx5⟩
  clear k_b1 k_c3
  replace b1:=b1.ext hx5
  replace c3:=c3.ext hx5
  replace r3:=r3.ext hx5
  replace hcur:=hcur.trans hx5
  have r5:=o5.reads
  clear o5
  have k_b1:=b1.cell
  have k_c3:=c3.cell
  go_upto_region 6 with fail
  clear k_b1 k_c3
  have hxa:=(Ext.refl w5).alloc (.cells #[.bool hX,.int .i64 aX.al,.slice D5 q5 f5,.slice D5' q5' f5',.string sX] 28)
  have c5:=Blk.new w5 28 #[.bool hX,.int .i64 aX.al,.slice D5 q5 f5,.slice D5' q5' f5',.string sX]
  have hGc5:=hcur.size
  have hLc5_b1:=b1.lt
  have hLc5_c3:=c3.lt
  replace b1:=b1.ext hxa
  replace c3:=c3.ext hxa
  replace r3:=r3.ext hxa
  replace r5:=r5.ext hxa
  replace hcur:=hcur.trans hxa
  clear hxa
  generalize w5.alloc (.cells #[.bool hX,.int .i64 aX.al,.slice D5 q5 f5,.slice D5' q5' f5',.string sX] 28)=w6 at *
  generalize w5.heap.size=Gc5 at *
  have k_b1:=b1.cell
  have k_c3:=c3.cell
  have k_c5:=c5.cell
  go_upto_region 99 with fail
  refine (agCert_same (hd:=hX) (x:=sX) r3 r5).mono ?_
  rintro e w7 ⟨rfl,hx7⟩
  clear k_b1 k_c3 k_c5
  replace b1:=b1.ext hx7
  replace c3:=c3.ext hx7
  replace c5:=c5.ext hx7
  replace r3:=r3.ext hx7
  replace r5:=r5.ext hx7
  replace hcur:=hcur.trans hx7
  have k_b1:=b1.cell
  have k_c3:=c3.cell
  have k_c5:=c5.cell
  go_upto_region 99 with fail
  refine (agCert_same (hd:=hX) (x:=sX) r3 r5).mono ?_
  rintro e w8 ⟨rfl,hx8⟩
  clear k_b1 k_c3 k_c5
  replace b1:=b1.ext hx8
  replace c3:=c3.ext hx8
  replace c5:=c5.ext hx8
  replace r3:=r3.ext hx8
  replace r5:=r5.ext hx8
  replace hcur:=hcur.trans hx8
  exact yZLawCob1
 case true =>
  subst hk
  obtain⟨g1,g2,g3,g4,g5⟩:=hco.out hok.out
  rw [hhX.out,haX.out,hsX.out] at g1
  rw [hhX.out] at g2 g5
  rw [hsX.out] at g3
  rw [haX.out] at g4
  subst g3
  subst g4
  clear hco hhX haX hsX hok
  have hcd:((cd==0)==hX)=true:=by rw [g2];cases (cd==0)<;>rfl
  have hcd2:(hX==(cd==0))=true:=by rw [g2];cases (cd==0)<;>rfl
  have HG:=za g1
  clear g1
  cases hX
  case false =>
   obtain rfl:cd=1:=by simpa using g5
   clear g2 g5 hcd hcd2
   have k_b1:=b1.cell
   go_upto_region 99 with fail
   refine (HC.out _ hcur).mono ?_
   rintro e w3 ⟨D3,q3,f3,D3',q3',f3',rfl,o3,hx3⟩
   clear k_b1
   replace b1:=b1.ext hx3
   replace hcur:=hcur.trans hx3
   have r3:=o3.reads
   clear o3
   have k_b1:=b1.cell
   go_upto_region 5 with fail
   clear k_b1
   have hxa:=(Ext.refl w3).alloc (.cells #[.bool false,.int .i64 aX.al,.slice D3 q3 f3,.slice D3' q3' f3',.string sX] 28)
   have c3:=Blk.new w3 28 #[.bool false,.int .i64 aX.al,.slice D3 q3 f3,.slice D3' q3' f3',.string sX]
   have hGc3:=hcur.size
   have hLc3_b1:=b1.lt
   replace b1:=b1.ext hxa
   replace r3:=r3.ext hxa
   replace hcur:=hcur.trans hxa
   clear hxa
   generalize w3.alloc (.cells #[.bool false,.int .i64 aX.al,.slice D3 q3 f3,.slice D3' q3' f3',.string sX] 28)=w4 at *
   generalize w3.heap.size=Gc3 at *
   have k_b1:=b1.cell
   have k_c3:=c3.cell
   go_upto_region 99 with fail
   refine (HD.out _ hcur).mono ?_
   rintro e w5 ⟨D5,q5,f5,D5',q5',f5',rfl,o5,hx5⟩
   clear k_b1 k_c3
   replace b1:=b1.ext hx5
   replace c3:=c3.ext hx5
   replace r3:=r3.ext hx5
   replace hcur:=hcur.trans hx5
   have r5:=o5.reads
   clear o5
   have k_b1:=b1.cell
   have k_c3:=c3.cell
   go_upto_region 6 with fail
   clear k_b1 k_c3
   have hxa:=(Ext.refl w5).alloc (.cells #[.bool false,.int .i64 aX.al,.slice D5 q5 f5,.slice D5' q5' f5',.string sX] 28)
   have c5:=Blk.new w5 28 #[.bool false,.int .i64 aX.al,.slice D5 q5 f5,.slice D5' q5' f5',.string sX]
   have hGc5:=hcur.size
   have hLc5_b1:=b1.lt
   have hLc5_c3:=c3.lt
   replace b1:=b1.ext hxa
   replace c3:=c3.ext hxa
   replace r3:=r3.ext hxa
   replace r5:=r5.ext hxa
   replace hcur:=hcur.trans hxa
   clear hxa
   generalize w5.alloc (.cells #[.bool false,.int .i64 aX.al,.slice D5 q5 f5,.slice D5' q5' f5',.string sX] 28)=w6 at *
   generalize w5.heap.size=Gc5 at *
   have k_b1:=b1.cell
   have k_c3:=c3.cell
   have k_c5:=c5.cell
   go_upto_region 99 with fail
   refine (agCert_same (hd:=false) (x:=sX) r3 r5).mono ?_
   rintro e w7 ⟨rfl,hx7⟩
   clear k_b1 k_c3 k_c5
   replace b1:=b1.ext hx7
   replace c3:=c3.ext hx7
   replace c5:=c5.ext hx7
   replace r3:=r3.ext hx7
   replace r5:=r5.ext hx7
   replace hcur:=hcur.trans hx7
   have k_b1:=b1.cell
   have k_c3:=c3.cell
   have k_c5:=c5.cell
   go_upto_region 99 with fail
   refine (zap _ _ _ _ f3 _ _ f3' false _ sX _ r3 hxs.out).mono ?_
   exact yZLawCoa1
  case true =>
   obtain rfl:cd=0:=by simpa using g2.symm
   clear g2 g5 hcd hcd2
   have k_b1:=b1.cell
   go_upto_region 99 with fail
   refine (HC.out _ hcur).mono ?_
   rintro e w3 ⟨D3,q3,f3,D3',q3',f3',rfl,o3,hx3⟩
   clear k_b1
   replace b1:=b1.ext hx3
   replace hcur:=hcur.trans hx3
   have r3:=o3.reads
   clear o3
   have k_b1:=b1.cell
   go_upto_region 5 with fail
   clear k_b1
   have hxa:=(Ext.refl w3).alloc (.cells #[.bool true,.int .i64 aX.al,.slice D3 q3 f3,.slice D3' q3' f3',.string sX] 28)
   have c3:=Blk.new w3 28 #[.bool true,.int .i64 aX.al,.slice D3 q3 f3,.slice D3' q3' f3',.string sX]
   have hGc3:=hcur.size
   have hLc3_b1:=b1.lt
   replace b1:=b1.ext hxa
   replace r3:=r3.ext hxa
   replace hcur:=hcur.trans hxa
   clear hxa
   generalize w3.alloc (.cells #[.bool true,.int .i64 aX.al,.slice D3 q3 f3,.slice D3' q3' f3',.string sX] 28)=w4 at *
   generalize w3.heap.size=Gc3 at *
   have k_b1:=b1.cell
   have k_c3:=c3.cell
   go_upto_region 99 with fail
   refine (HD.out _ hcur).mono ?_
   rintro e w5 ⟨D5,q5,f5,D5',q5',f5',rfl,o5,hx5⟩
   clear k_b1 k_c3
   replace b1:=b1.ext hx5
   replace c3:=c3.ext hx5
   replace r3:=r3.ext hx5
   replace hcur:=hcur.trans hx5
   have r5:=o5.reads
   clear o5
   have k_b1:=b1.cell
   have k_c3:=c3.cell
   go_upto_region 6 with fail
   clear k_b1 k_c3
   have hxa:=(Ext.refl w5).alloc (.cells #[.bool true,.int .i64 aX.al,.slice D5 q5 f5,.slice D5' q5' f5',.string sX] 28)
   have c5:=Blk.new w5 28 #[.bool true,.int .i64 aX.al,.slice D5 q5 f5,.slice D5' q5' f5',.string sX]
   have hGc5:=hcur.size
   have hLc5_b1:=b1.lt
   have hLc5_c3:=c3.lt
   replace b1:=b1.ext hxa
   replace c3:=c3.ext hxa
   replace r3:=r3.ext hxa
   replace r5:=r5.ext hxa
   replace hcur:=hcur.trans hxa
   clear hxa
   generalize w5.alloc (.cells #[.bool true,.int .i64 aX.al,.slice D5 q5 f5,.slice D5' q5' f5',.string sX] 28)=w6 at *
   generalize w5.heap.size=Gc5 at *
   have k_b1:=b1.cell
   have k_c3:=c3.cell
   have k_c5:=c5.cell
   go_upto_region 99 with fail
   refine (agCert_same (hd:=true) (x:=sX) r3 r5).mono ?_
   rintro e w7 ⟨rfl,hx7⟩
   clear k_b1 k_c3 k_c5
   replace b1:=b1.ext hx7
   replace c3:=c3.ext hx7
   replace c5:=c5.ext hx7
   replace r3:=r3.ext hx7
   replace r5:=r5.ext hx7
   replace hcur:=hcur.trans hx7
   have k_b1:=b1.cell
   have k_c3:=c3.cell
   have k_c5:=c5.cell
   go_upto_region 99 with fail
   refine (zap _ _ _ _ f3 _ _ f3' true _ sX _ r3 hxs.out).mono ?_
   exact yZLawCoa1
end Go.Proofs.YtfcjhpodichpjaaGreat
