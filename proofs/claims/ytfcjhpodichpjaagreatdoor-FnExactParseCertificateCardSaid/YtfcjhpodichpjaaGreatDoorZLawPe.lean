/- The law FnEx -/
import Derived.Test.YtfcjhpodichpjaaGreatDoorP03
import Derived.Test.YtfcjhpodichpjaaGreatDoorP02
set_option maxHeartbeats 2000000
set_option maxRecDepth 100000
namespace Go.Proofs.YtfcjhpodichpjaaGreatDoor
open Go Go.RowKit
theorem tot_le9:∀ ls:List (List Int),(∀ l∈ls,l.length≤6)→tot ls≤ls.length*6
 |[],_=>by simp [tot]
 |l :: r,h=>by
  have h1:=tot_le9 r (fun x hx=>h x (by simp [hx]))
  have h2:=h l (by simp)
  simp only [tot,List.map_cons,List.sum_cons,List.length_cons] at h1 ⊢
  omega
theorem cnt_pars {x:ByteArray} {ok hd:Bool} {a:Aut} {t:ByteArray}(h:zbY x ok hd a t):cntA a≤100:=by
 have h0:cntA ⟨0,[],[]⟩≤100:=by decide
 rcases h with ⟨-,h,-⟩|⟨-,-,rfl,-,-⟩
 ·cases hd
  ·simp only [zd,Bool.false_eq_true,if_false,Bool.and_eq_true] at h
   rw [none_eq h.1]
   exact h0
  ·simp only [zd,if_true,Bool.and_eq_true] at h
   obtain⟨-,-,h2,h3,-,h5⟩:=ze h.1
   have h6:=tot_le9 a.next (fun l hl=>(h5 l hl).2)
   unfold cntA
   omega
 ·exact h0
theorem law_ExactParseCertificate {x:ByteArray} {w:World}(hx:x.size≤9223372036854775807)(hE:Sent w) :
  Calls Tryz.prog 5 #[.string x] w fun e w'=>e=.returned (.bool true)∧Ext w w':=by
 have HE:=za (fun W (hW:Ext w W)=>hE.ext hW)
 clear hE
 by_cases hbig:1048576<x.size
 ·have hbig':(1048576:Int)<(x.size:Int):=by omega
  go_enter Tryz.func5,Tryz.ntmps5
  go_wp2
  go_ret
  exact⟨rfl,Ext.refl _⟩
 have hbig':(x.size:Int)≤1048576:=by omega
 have hsz:x.size≤2000000:=by omega
 clear hbig hx
 have HI:=za (fun W (hW:Ext w W)=>impl_ParseCertificateX hsz (HE.out W hW))
 have HR:=za (spec_ParseCertificateX (w:=w) hsz)
 clear HE
 go_enter Tryz.func5,Tryz.ntmps5
 go_wp2_with fail
 refine HR.out.mono ?_
 rintro e w1 ⟨ok,hd,a,A1,n1,c1,B1,m1,d1,t,rfl,own1,hp1,hx1⟩
 have hcn:=za (cnt_pars hp1.out)
 have hbb:(ok != ok)=false:=by cases ok<;>rfl
 have r1:=own1.reads
 clear own1 HR
 have hz1:=za hx1.size
 have hw:=hx1
 clear hx1
 go_upto_region 4 with fail
 have hxa:=(Ext.refl w1).alloc (.cells #[.bool hd,.int .i64 a.al,.slice A1 n1 c1,.slice B1 m1 d1,.string t] 28)
 have b1:=Blk.new w1 28 #[.bool hd,.int .i64 a.al,.slice A1 n1 c1,.slice B1 m1 d1,.string t]
 replace hw:=hw.trans hxa
 replace r1:=r1.ext hxa
 have hzb1:=za (show w1.heap.size<(w1.alloc (.cells #[.bool hd,.int .i64 a.al,.slice A1 n1 c1,.slice B1 m1 d1,.string t] 28)).heap.size by simp)
 clear hxa
 generalize w1.alloc (.cells #[.bool hd,.int .i64 a.al,.slice A1 n1 c1,.slice B1 m1 d1,.string t] 28)=w2 at *
 obtain⟨G1,hG1⟩:∃ G,Hid (G=w1.heap.size):=⟨_,rfl⟩
 rw [← hG1.out] at b1
 try rw [← hG1.out]
 go_wp2_with fail
 refine (HI.out _ hw).mono ?_
 rintro e w3 ⟨ok2,hd2,a2,A2,n2,c2,B2,m2,d2,t2,rfl,own2,hp2,hx2⟩
 obtain⟨e1,e2,e3,e4⟩:=hp1.out.same hp2.out
 subst e1
 subst e2
 subst e3
 subst e4
 clear hp2
 replace hw:=hw.trans hx2
 replace r1:=r1.ext hx2
 replace b1:=b1.ext hx2
 have hz2:=za hx2.size
 clear hx2
 have own2h:=own2.high
 clear own2
 go_upto_region 5 with fail
 have hxa:=(Ext.refl w3).alloc (.cells #[.bool hd,.int .i64 a.al,.slice A2 n2 c2,.slice B2 m2 d2,.string t] 28)
 have b2:=Blk.new w3 28 #[.bool hd,.int .i64 a.al,.slice A2 n2 c2,.slice B2 m2 d2,.string t]
 replace hw:=hw.trans hxa
 replace r1:=r1.ext hxa
 replace b1:=b1.ext hxa
 replace own2h:=own2h.ext hxa
 have hzb2:=za (show w3.heap.size<(w3.alloc (.cells #[.bool hd,.int .i64 a.al,.slice A2 n2 c2,.slice B2 m2 d2,.string t] 28)).heap.size by simp)
 clear hxa
 generalize w3.alloc (.cells #[.bool hd,.int .i64 a.al,.slice A2 n2 c2,.slice B2 m2 d2,.string t] 28)=w4 at *
 obtain⟨G2,hG2⟩:∃ G,Hid (G=w3.heap.size):=⟨_,rfl⟩
 rw [← hG2.out] at b2
 try rw [← hG2.out]
 have r2:=own2h.own.reads
 have k1:=b1.cell
 have k2:=b2.cell
 go_upto_region 99 with fail
 refine (eqCertificate_same r2 r1).mono ?_
 rintro e w5 ⟨rfl,hx5⟩
 clear k1 k2 r2
 replace hw:=hw.trans hx5
 replace r1:=r1.ext hx5
 replace b1:=b1.ext hx5
 replace own2h:=own2h.ext hx5
 replace b2:=b2.ext hx5
 clear hx5
 have hk:1+cntA a≤4611686018427387904:=by have:=hcn.out;omega
 have k2:=b2.cell
 go_upto_region 99 with fail
 refine (markCertificate_any (k:=1) own2h hk).mono ?_
 rintro e w6 ⟨rfl,own6,hf⟩
 clear k2
 replace hw:=hw.frm hf (fun k hk hS=>by have:=hz1.out;have:=hz2.out;have:=hzb1.out;have:=hzb2.out;have:=hG1.out;have:=hG2.out;omega)
 replace r1:=r1.frm hf (fun k h1 h2 hS=>by have:=hz1.out;have:=hz2.out;have:=hzb1.out;have:=hzb2.out;have:=hG1.out;have:=hG2.out;omega)
 replace b1:=b1.frm hf (fun hS=>by have:=hz1.out;have:=hz2.out;have:=hzb1.out;have:=hzb2.out;have:=hG1.out;have:=hG2.out;omega)
 replace b2:=b2.frm hf (fun hS=>by have:=hz1.out;have:=hz2.out;have:=hzb1.out;have:=hzb2.out;have:=hG1.out;have:=hG2.out;omega)
 clear hf own2h
 replace own6:=own6.own.reads
 have hk1:¬ ((((1+cntA a:Nat):Int))<0):=by omega
 have k2:=b2.cell
 go_upto_region 99 with fail
 refine (heldCertificate_any own6 hk).mono ?_
 rintro e w7 ⟨rfl,hx7⟩
 clear k2
 replace hw:=hw.trans hx7
 replace r1:=r1.ext hx7
 replace b1:=b1.ext hx7
 replace b2:=b2.ext hx7
 replace own6:=own6.ext hx7
 clear hx7
 go_wp2_with fail
 refine (HI.out _ hw).mono ?_
 rintro e w8 ⟨ok3,hd3,a3,A3,n3,c3,B3,m3,d3,t3,rfl,own3,hp3,hx3⟩
 obtain⟨e1,e2,e3,e4⟩:=hp1.out.same hp3.out
 subst e1
 subst e2
 subst e3
 subst e4
 clear hp3
 replace hw:=hw.trans hx3
 replace r1:=r1.ext hx3
 replace b1:=b1.ext hx3
 replace b2:=b2.ext hx3
 replace own6:=own6.ext hx3
 have hz3:=za hx3.size
 clear hx3
 replace own3:=own3.reads
 go_upto_region 16 with fail
 have hxa:=(Ext.refl w8).alloc (.cells #[.bool hd,.int .i64 a.al,.slice A3 n3 c3,.slice B3 m3 d3,.string t] 28)
 have b3:=Blk.new w8 28 #[.bool hd,.int .i64 a.al,.slice A3 n3 c3,.slice B3 m3 d3,.string t]
 replace hw:=hw.trans hxa
 replace r1:=r1.ext hxa
 replace b1:=b1.ext hxa
 replace b2:=b2.ext hxa
 replace own6:=own6.ext hxa
 replace own3:=own3.ext hxa
 have hzb3:=za (show w8.heap.size<(w8.alloc (.cells #[.bool hd,.int .i64 a.al,.slice A3 n3 c3,.slice B3 m3 d3,.string t] 28)).heap.size by simp)
 clear hxa
 generalize w8.alloc (.cells #[.bool hd,.int .i64 a.al,.slice A3 n3 c3,.slice B3 m3 d3,.string t] 28)=w9 at *
 obtain⟨G3,hG3⟩:∃ G,Hid (G=w8.heap.size):=⟨_,rfl⟩
 rw [← hG3.out] at b3
 try rw [← hG3.out]
 have k1:=b1.cell
 have k3:=b3.cell
 go_upto_region 99 with fail
 refine (eqCertificate_same own3 r1).mono ?_
 rintro e wA ⟨rfl,hxA⟩
 clear k1 k3
 replace hw:=hw.trans hxA
 replace r1:=r1.ext hxA
 replace b1:=b1.ext hxA
 replace b2:=b2.ext hxA
 replace own6:=own6.ext hxA
 replace own3:=own3.ext hxA
 replace b3:=b3.ext hxA
 clear hxA
 have k2:=b2.cell
 go_upto_region 99 with fail
 refine (heldCertificate_any own6 hk).mono ?_
 rintro e wB ⟨rfl,hxB⟩
 clear k2
 replace hw:=hw.trans hxB
 replace r1:=r1.ext hxB
 replace b1:=b1.ext hxB
 replace b2:=b2.ext hxB
 replace own6:=own6.ext hxB
 replace own3:=own3.ext hxB
 replace b3:=b3.ext hxB
 clear hxB
 go_wp2_with fail
 go_ret
 exact⟨rfl,hw⟩
end Go.Proofs.YtfcjhpodichpjaaGreatDoor
