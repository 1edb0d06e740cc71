/- The program' -/
import Derived.Test.YtmjaepibdpfblaaGreatDoorK09
import Derived.Test.YtmjaepibdpfblaaGreatDoorK02
import Derived.Test.YtmjaepibdpfblaaGreatDoorK06
import Derived.Test.YtmjaepibdpfblaaGreatDoorK08
import Derived.Test.YtmjaepibdpfblaaGreatDoorK07
import Derived.Test.YtmjaepibdpfblaaGreatDoorK05
import Derived.Test.YtmjaepibdpfblaaGreatDoorK01
import Derived.Test.YtmjaepibdpfblaaGreatDoorK03
namespace Go.Proofs.YtmjaepibdpfblaaGreatDoor
open Go Go.RowKit
set_option maxHeartbeats 4000000
set_option maxRecDepth 100000
section
variable {lo hi n c:Nat} {A:Option Addr} {s:Sys} {lo1 hi1 m1 d1 m1' d1':Nat} {B B':Option Addr} {a:Aut} {lo2 hi2 m2 d2 m2' d2':Nat} {C C':Option Addr} {p:Aut} {w:World}
theorem zeF (h:zN w lo hi A n s)(ha:zG w lo1 hi1 B m1 B' m1' a)(hp:zG w lo2 hi2 C m2 C' m2' p)(hT:Tab w) :
  Calls Tryz.prog 84 #[.agg #[.int .i64 s.al,.int .i64 s.st,.slice A n c],.agg #[.int .i64 a.al,.slice B m1 d1,.slice B' m1' d1'],.agg #[.int .i64 p.al,.slice C m2 d2,.slice C' m2' d2']] w fun e w'=>e=.returned (.tuple #[.string (zbS s a p),.bool (zbR s a p)])∧Ext w w':=by
 have HT:=za (fun W (hW:Ext w W)=>hT.ext hW)
 have HSy:=za (fun W (hW:Ext w W)=>h.ext hW)
 have HAa:=za (fun W (hW:Ext w W)=>ha.ext hW)
 have HPa:=za (fun W (hW:Ext w W)=>hp.ext hW)
 have HS:=za (fun W (hW:Ext w W)=>zaa (c:=c) (h.ext hW))
 have HA:=za (fun W (hW:Ext w W)=>zD _ _ _ _ d1 _ _ d1' _ _ (ha.ext hW))
 have HP:=za (fun W (hW:Ext w W)=>zD _ _ _ _ d2 _ _ d2' _ _ (hp.ext hW))
 clear h ha hp hT
 have hw1:Ext w (((w.alloc (.cells #[.int .i64 s.al,.int .i64 s.st,.slice A n c] 38)).alloc (.cells #[.int .i64 a.al,.slice B m1 d1,.slice B' m1' d1'] 31)).alloc (.cells #[.int .i64 p.al,.slice C m2 d2,.slice C' m2' d2'] 31)):=(((Ext.refl w).alloc _).alloc _).alloc _
 obtain⟨b1,b2,b3⟩:=zO (Ext.refl (((w.alloc (.cells #[.int .i64 s.al,.int .i64 s.st,.slice A n c] 38)).alloc (.cells #[.int .i64 a.al,.slice B m1 d1,.slice B' m1' d1'] 31)).alloc (.cells #[.int .i64 p.al,.slice C m2 d2,.slice C' m2' d2'] 31)))
 by_cases hT:zcI s a p=true
 ·have hr:=za (show zbS s a p=vioW [s] a p∧zbR s a p=vioB [s] a p by unfold zbS zbR;rw [hT];exact⟨rfl,by simp⟩)
  unfold zcI at hT
  simp only [Bool.and_eq_true] at hT
  obtain⟨v1,v2,v3⟩:=hT
  have hap:=za (show zE [s]=true by simp [zE,v1])
  have V1:=za v1
  have V2:=za v2
  have V3:=za v3
  clear v1 v2 v3
  go_enter Tryz.func84,Tryz.ntmps84
  go_upto_region 1 with fail
  generalize ((w.alloc (.cells #[.int .i64 s.al,.int .i64 s.st,.slice A n c] 38)).alloc (.cells #[.int .i64 a.al,.slice B m1 d1,.slice B' m1' d1'] 31)).alloc (.cells #[.int .i64 p.al,.slice C m2 d2,.slice C' m2' d2'] 31)=w1 at *
  have c1:=b1.cell
  go_upto_region 3 with (first
   |(go_at_call 95;with_reducible refine (HS.out _ hw1).mono ?_;rw [V1.out];rintro e w2 ⟨rfl,hx2⟩;have hw2:=hw1.trans hx2;have c2:=(b2.ext hx2).cell)
   |(go_at_call 96;with_reducible refine (HA.out _ hw2).mono ?_;rw [V2.out];rintro e w3 ⟨rfl,hx3⟩;have hw3:=hw2.trans hx3;have c3:=(b3.ext (hx2.trans hx3)).cell)
   |(go_at_call 96;with_reducible refine (HP.out _ hw3).mono ?_;rw [V3.out];rintro e w4 ⟨rfl,hx4⟩;have hw4:=hw3.trans hx4))
  have hx14:=hx2.trans (hx3.trans hx4)
  have k1:=(b1.ext hx14).cell
  have e5:=Blk.new w4 38 #[.int .i64 s.al,.int .i64 s.st,.slice A n c]
  have f5:=(Ext.refl w4).alloc (.cells #[.int .i64 s.al,.int .i64 s.st,.slice A n c] 38)
  have k3:=(b3.ext (hx14.trans f5)).cell
  have b25:=b2.ext (hx14.trans f5)
  have hw5:=hw4.trans f5
  obtain⟨l1,h1,hsl⟩:=sl_one e5 (HSy.out _ hw5)
  have HF:=za (zfO (c:=1) (d2:=d2) (d2':=d2') hsl hap.out (HT.out _ hw5) b25 (HAa.out _ hw5) V2.out (HPa.out _ hw5) V3.out)
  clear c1 c2 c3 b1 b2 b3 hsl e5 b25
  go_wp2_with (go_at_call 119;refine HF.out.mono ?_;rintro e w6 hF;obtain⟨rfl,hx6⟩:=hF.first (zdl _))
  go_ret2
  exact⟨by rw [hr.out.1,hr.out.2];rfl,hw5.trans hx6⟩
 ·have hT':zcI s a p=false:=by simpa using hT
  have hr:=za (show zbS s a p=ByteArray.empty∧zbR s a p=false by unfold zbS zbR;rw [hT'];exact⟨rfl,rfl⟩)
  have hT2:=za (show (zl s&&(zi a&&zi p))=false from hT')
  clear hT hT'
  cases h1:zl s<;>cases h2:zi a<;>cases h3:zi p
  all_goals first
   |(exfalso;have:=hT2.out;rw [h1,h2,h3] at this;cases this;done)
   |(have H1:=za h1
     have H2:=za h2
     have H3:=za h3
     clear h1 h2 h3
     go_enter Tryz.func84,Tryz.ntmps84
     go_upto_region 1 with fail
     generalize ((w.alloc (.cells #[.int .i64 s.al,.int .i64 s.st,.slice A n c] 38)).alloc (.cells #[.int .i64 a.al,.slice B m1 d1,.slice B' m1' d1'] 31)).alloc (.cells #[.int .i64 p.al,.slice C m2 d2,.slice C' m2' d2'] 31)=w1 at *
     have c1:=b1.cell
     go_wp2_with (first
      |(go_at_call 95;with_reducible refine (HS.out _ hw1).mono ?_;rw [H1.out];rintro e w2 ⟨rfl,hx2⟩;have hw2:=hw1.trans hx2;have c2:=(b2.ext hx2).cell)
      |(go_at_call 96;with_reducible refine (HA.out _ hw2).mono ?_;rw [H2.out];rintro e w3 ⟨rfl,hx3⟩;have hw3:=hw2.trans hx3;have c3:=(b3.ext (hx2.trans hx3)).cell)
      |(go_at_call 96;with_reducible refine (HP.out _ hw3).mono ?_;rw [H3.out];rintro e w4 ⟨rfl,hx4⟩;have hw4:=hw3.trans hx4))
     go_ret2
     exact⟨by rw [hr.out.1,hr.out.2];rfl,by first|exact hw4|exact hw3|exact hw2⟩)
theorem zgo (h:zN w lo hi A n s)(ha:zG w lo1 hi1 B m1 B' m1' a)(hp:zG w lo2 hi2 C m2 C' m2' p)(hT:Tab w) :
  Calls Tryz.prog 117 #[.agg #[.int .i64 s.al,.int .i64 s.st,.slice A n c],.agg #[.int .i64 a.al,.slice B m1 d1,.slice B' m1' d1'],.agg #[.int .i64 p.al,.slice C m2 d2,.slice C' m2' d2']] w fun e w'=>e=.returned (.bool (zen s a p))∧Ext w w':=by
 have HV:=za (fun W (hW:Ext w W)=>zeF (c:=c) (d1:=d1) (d1':=d1') (d2:=d2) (d2':=d2') (h.ext hW) (ha.ext hW) (hp.ext hW) (hT.ext hW))
 have HS:=za (fun W (hW:Ext w W)=>zaa (c:=c) (h.ext hW))
 have HA:=za (fun W (hW:Ext w W)=>zD _ _ _ _ d1 _ _ d1' _ _ (ha.ext hW))
 have HP:=za (fun W (hW:Ext w W)=>zD _ _ _ _ d2 _ _ d2' _ _ (hp.ext hW))
 have hr:=za (show zen s a p=((zl s&&(zi a&&zi p))&&!zbR s a p) from zfH s a p)
 clear h ha hp hT
 generalize zbR s a p=ub at *
 generalize zbS s a p=uw at *
 have hw1:Ext w (((w.alloc (.cells #[.int .i64 s.al,.int .i64 s.st,.slice A n c] 38)).alloc (.cells #[.int .i64 a.al,.slice B m1 d1,.slice B' m1' d1'] 31)).alloc (.cells #[.int .i64 p.al,.slice C m2 d2,.slice C' m2' d2'] 31)):=(((Ext.refl w).alloc _).alloc _).alloc _
 obtain⟨b1,b2,b3⟩:=zO (Ext.refl (((w.alloc (.cells #[.int .i64 s.al,.int .i64 s.st,.slice A n c] 38)).alloc (.cells #[.int .i64 a.al,.slice B m1 d1,.slice B' m1' d1'] 31)).alloc (.cells #[.int .i64 p.al,.slice C m2 d2,.slice C' m2' d2'] 31)))
 cases h1:zl s<;>cases h2:zi a<;>cases h3:zi p<;>cases ub
 all_goals
  have H1:=za h1
  have H2:=za h2
  have H3:=za h3
  clear h1 h2 h3
  go_enter Tryz.func117,Tryz.ntmps117
  go_upto_region 1 with fail
  generalize ((w.alloc (.cells #[.int .i64 s.al,.int .i64 s.st,.slice A n c] 38)).alloc (.cells #[.int .i64 a.al,.slice B m1 d1,.slice B' m1' d1'] 31)).alloc (.cells #[.int .i64 p.al,.slice C m2 d2,.slice C' m2' d2'] 31)=w1 at *
  have c1:=b1.cell
  have c2:=b2.cell
  have c3:=b3.cell
  go_wp2_with (first
   |(go_at_call 84;refine (HV.out _ hw1).mono ?_;rintro e w2 ⟨rfl,hx2⟩;have hw2:=hw1.trans hx2;have c12:=(b1.ext hx2).cell)
   |(go_at_call 95;with_reducible refine (HS.out _ hw2).mono ?_;rw [H1.out];rintro e w3 ⟨rfl,hx3⟩;have hw3:=hw2.trans hx3;have c22:=(b2.ext (hx2.trans hx3)).cell)
   |(go_at_call 96;with_reducible refine (HA.out _ hw3).mono ?_;rw [H2.out];rintro e w4 ⟨rfl,hx4⟩;have hw4:=hw3.trans hx4;have c32:=(b3.ext (hx2.trans (hx3.trans hx4))).cell)
   |(go_at_call 96;with_reducible refine (HP.out _ hw4).mono ?_;rw [H3.out];rintro e w5 ⟨rfl,hx5⟩;have hw5:=hw4.trans hx5))
  go_ret
  exact⟨zk (by rw [hr.out,H1.out,H2.out,H3.out];rfl),by first|exact hw5|exact hw4|exact hw3⟩
variable {k:Nat} {ss:List Sys}
theorem zeE (h:zey w lo hi A k ss)(hp:zG w lo2 hi2 C m2 C' m2' p)(hT:Tab w) :
  Calls Tryz.prog 55 #[.slice A k c,.agg #[.int .i64 p.al,.slice C m2 d2,.slice C' m2' d2']] w fun e w'=>e=.returned (.tuple #[.string (zaU ss p),.bool (zce ss p)])∧Ext w w':=by
 have HS:=za (fun W (hW:Ext w W)=>h.ext hW)
 have HP:=za (fun W (hW:Ext w W)=>hp.ext hW)
 have HT:=za (fun W (hW:Ext w W)=>hT.ext hW)
 clear h hp hT
 have hw1:Ext w (w.alloc (.cells #[.int .i64 p.al,.slice C m2 d2,.slice C' m2' d2'] 31)):=(Ext.refl w).alloc _
 have b1:=Blk.new w 31 #[.int .i64 p.al,.slice C m2 d2,.slice C' m2' d2']
 cases hA:zE ss
 ·have hr:=za (show zaU ss p=ByteArray.empty∧zce ss p=false by unfold zaU zce zdx;rw [hA];exact⟨rfl,rfl⟩)
  have HA:=za hA
  clear hA
  go_enter Tryz.func55,Tryz.ntmps55
  go_upto_region 1 with fail
  generalize w.alloc (.cells #[.int .i64 p.al,.slice C m2 d2,.slice C' m2' d2'] 31)=w1 at *
  go_wp2_with (go_at_call 105;refine (zaC (HS.out _ hw1)).mono ?_;rw [HA.out];rintro e w2 ⟨rfl,hx2⟩)
  go_ret2
  exact⟨by rw [hr.out.1,hr.out.2];rfl,hw1.trans hx2⟩
 ·cases hV:zi p
  ·have hr:=za (show zaU ss p=ByteArray.empty∧zce ss p=false by unfold zaU zce zdx;rw [hA,hV];exact⟨rfl,rfl⟩)
   have HV:=za hV
   have HA:=za hA
   clear hA hV
   go_enter Tryz.func55,Tryz.ntmps55
   go_upto_region 1 with fail
   generalize w.alloc (.cells #[.int .i64 p.al,.slice C m2 d2,.slice C' m2' d2'] 31)=w1 at *
   go_wp2_with (first
    |(go_at_call 105;refine (zaC (HS.out _ hw1)).mono ?_;rw [HA.out];rintro e w2 ⟨rfl,hx2⟩;have hw2:=hw1.trans hx2;have c2:=(b1.ext hx2).cell)
    |(go_at_call 96;refine (zD _ _ _ _ _ _ _ _ _ _ (HP.out _ hw2)).mono ?_;rw [HV.out];rintro e w3 ⟨rfl,hx3⟩;have hw3:=hw2.trans hx3))
   go_ret2
   exact⟨by rw [hr.out.1,hr.out.2];rfl,hw3⟩
  ·have hr:=za (show zaU ss p=vioW ss free p∧zce ss p=vioB ss free p by unfold zaU zce zdx;rw [hA,hV];exact⟨rfl,by simp⟩)
   have HV:=za hV
   have HA:=za hA
   clear hA hV
   go_enter Tryz.func55,Tryz.ntmps55
   go_upto_region 1 with fail
   generalize w.alloc (.cells #[.int .i64 p.al,.slice C m2 d2,.slice C' m2' d2'] 31)=w1 at *
   go_wp2_with (first
    |(go_at_call 105;refine (zaC (HS.out _ hw1)).mono ?_;rw [HA.out];rintro e w2 ⟨rfl,hx2⟩;have hw2:=hw1.trans hx2;have c2:=(b1.ext hx2).cell)
    |(go_at_call 96;refine (zD _ _ _ _ _ _ _ _ _ _ (HP.out _ hw2)).mono ?_;rw [HV.out];rintro e w3 ⟨rfl,hx3⟩;have hw3:=hw2.trans hx3;have c3:=(b1.ext (hx2.trans hx3)).cell)
    |(go_at_call 119;refine (zed (c:=c) (d2:=d2) (d2':=d2') (HS.out _ hw3) HA.out (HT.out _ hw3) (HP.out _ hw3) HV.out).mono ?_;rintro e w4 hF;obtain⟨rfl,hx4⟩:=hF.first (zdl _)))
   go_ret2
   exact⟨by rw [hr.out.1,hr.out.2];rfl,hw3.trans hx4⟩
theorem zgP (h:zey w lo hi A k ss)(hp:zG w lo2 hi2 C m2 C' m2' p)(hT:Tab w) :
  Calls Tryz.prog 47 #[.slice A k c,.agg #[.int .i64 p.al,.slice C m2 d2,.slice C' m2' d2']] w fun e w'=>e=.returned (.bool (zcT ss p))∧Ext w w':=by
 have HV:=za (fun W (hW:Ext w W)=>zeE (c:=c) (d2:=d2) (d2':=d2') (h.ext hW) (hp.ext hW) (hT.ext hW))
 have HS:=za (fun W (hW:Ext w W)=>h.ext hW)
 have HP:=za (fun W (hW:Ext w W)=>hp.ext hW)
 have hr:=za (show zcT ss p=(zE ss&&zi p&&!zce ss p) from zgj ss p)
 clear h hp hT
 generalize zce ss p=ub at *
 generalize zaU ss p=uw at *
 have hw1:Ext w (w.alloc (.cells #[.int .i64 p.al,.slice C m2 d2,.slice C' m2' d2'] 31)):=(Ext.refl w).alloc _
 have b1:=Blk.new w 31 #[.int .i64 p.al,.slice C m2 d2,.slice C' m2' d2']
 cases hA:zE ss<;>cases hVv:zi p<;>cases ub
 all_goals
  have HA:=za (show zE ss=_ from hA)
  have HVv:=za hVv
  clear hA hVv
  go_enter Tryz.func47,Tryz.ntmps47
  go_upto_region 1 with fail
  generalize w.alloc (.cells #[.int .i64 p.al,.slice C m2 d2,.slice C' m2' d2'] 31)=w1 at *
  have c1:=b1.cell
  go_wp2_with (first
   |(go_at_call 55;refine (HV.out _ hw1).mono ?_;rintro e w2 ⟨rfl,hx2⟩;have hw2:=hw1.trans hx2)
   |(go_at_call 105;refine (zaC (HS.out _ hw2)).mono ?_;rw [HA.out];rintro e w3 ⟨rfl,hx3⟩;have hw3:=hw2.trans hx3;have c3:=(b1.ext (hx2.trans hx3)).cell)
   |(go_at_call 96;refine (zD _ _ _ _ _ _ _ _ _ _ (HP.out _ hw3)).mono ?_;rw [HVv.out];rintro e w4 ⟨rfl,hx4⟩;have hw4:=hw3.trans hx4))
  go_ret
  exact⟨zk (by rw [hr.out,HA.out,HVv.out];rfl),by first|exact hw4|exact hw3⟩
theorem zeW (h:zN w lo hi A n s)(hp:zG w lo2 hi2 C m2 C' m2' p)(hT:Tab w) :
  Calls Tryz.prog 118 #[.agg #[.int .i64 s.al,.int .i64 s.st,.slice A n c],.agg #[.int .i64 p.al,.slice C m2 d2,.slice C' m2' d2']] w fun e w'=>e=.returned (.bool (zcT [s] p))∧Ext w w':=by
 have HS:=za (fun W (hW:Ext w W)=>h.ext hW)
 have HP:=za (fun W (hW:Ext w W)=>hp.ext hW)
 have HT:=za (fun W (hW:Ext w W)=>hT.ext hW)
 clear h hp hT
 have hw1:Ext w ((w.alloc (.cells #[.int .i64 s.al,.int .i64 s.st,.slice A n c] 38)).alloc (.cells #[.int .i64 p.al,.slice C m2 d2,.slice C' m2' d2'] 31)):=((Ext.refl w).alloc _).alloc _
 obtain⟨b1,b2⟩:=zU (Ext.refl ((w.alloc (.cells #[.int .i64 s.al,.int .i64 s.st,.slice A n c] 38)).alloc (.cells #[.int .i64 p.al,.slice C m2 d2,.slice C' m2' d2'] 31)))
 go_enter Tryz.func118,Tryz.ntmps118
 go_upto_region 1 with fail
 generalize (w.alloc (.cells #[.int .i64 s.al,.int .i64 s.st,.slice A n c] 38)).alloc (.cells #[.int .i64 p.al,.slice C m2 d2,.slice C' m2' d2'] 31)=w1 at *
 have c1:=b1.cell
 have e2:=Blk.new w1 38 #[.int .i64 s.al,.int .i64 s.st,.slice A n c]
 have f2:=(Ext.refl w1).alloc (.cells #[.int .i64 s.al,.int .i64 s.st,.slice A n c] 38)
 have c2:=(b2.ext f2).cell
 have hw2:=hw1.trans f2
 obtain⟨l1,h1,hsl⟩:=sl_one e2 (HS.out _ hw2)
 go_wp2_with (go_at_call 47;refine (zgP hsl (HP.out _ hw2) (HT.out _ hw2)).mono ?_;rintro e w3 ⟨rfl,hx3⟩)
 go_ret
 exact⟨zk rfl,hw2.trans hx3⟩
end
def three (ss:List Sys) (p:Aut):Bool:=decide (ss.length=3)&&(zE ss&&zi p)
def iface (s:Sys) (p:Aut) (t:Sys):Int:=if (zl s&&(zi p&&zl t))=true then (((s.al.toNat|||p.al.toNat)&&&t.al.toNat:Nat):Int) else -1
section
variable {lo hi n c:Nat} {A:Option Addr} {s:Sys} {lo1 hi1 m1 d1 m1' d1':Nat} {B B':Option Addr} {p:Aut} {lo2 hi2 k c2:Nat} {C:Option Addr} {t:Sys} {w:World}
theorem zaY (h:zN w lo hi A n s)(hp:zG w lo1 hi1 B m1 B' m1' p)(ht:zN w lo2 hi2 C k t) :
  Calls Tryz.prog 99 #[.agg #[.int .i64 s.al,.int .i64 s.st,.slice A n c],.agg #[.int .i64 p.al,.slice B m1 d1,.slice B' m1' d1'],.agg #[.int .i64 t.al,.int .i64 t.st,.slice C k c2]] w fun e w'=>e=.returned (.int .i64 (iface s p t))∧Ext w w':=by
 have HS:=za (fun W (hW:Ext w W)=>zai (c:=c) (h.ext hW))
 have HP:=za (fun W (hW:Ext w W)=>zJ _ _ _ _ d1 _ _ d1' _ _ (hp.ext hW))
 have HT:=za (fun W (hW:Ext w W)=>zai (c:=c2) (ht.ext hW))
 clear h hp ht
 cases h1:zl s<;>cases h2:zi p<;>cases h3:zl t
 case true.true.true =>
  have H1:=za h1
  have H2:=za h2
  have H3:=za h3
  have v1:=zP h1
  have v2:=(zj h2).1
  have v3:=zP h3
  obtain⟨a,ha⟩:∃ a:Nat,Hid (s.al=a):=⟨s.al.toNat,by unfold Hid;omega⟩
  obtain⟨b,hb⟩:∃ a:Nat,Hid (p.al=a):=⟨p.al.toNat,by unfold Hid;omega⟩
  obtain⟨d,hd⟩:∃ a:Nat,Hid (t.al=a):=⟨t.al.toNat,by unfold Hid;omega⟩
  have hr:=za (show iface s p t=((((a|||b)&&&d:Nat)):Int) by unfold iface;rw [h1,h2,h3,ha.out,hb.out,hd.out];rfl)
  rw [ha.out] at v1
  rw [hb.out] at v2
  rw [hd.out] at v3
  have a6:a≤63:=by omega
  have b6:b≤63:=by omega
  have d6:d≤63:=by omega
  have o6:=Nat.or_lt_two_pow (n:=6) (x:=a) (y:=b) (by omega) (by omega)
  have ho:=zbG (a:=a) (b:=b) (by unfold Sm;omega) (by unfold Sm;omega)
  have hn:=zcl (a:=a|||b) (b:=d) (by unfold Sm;omega) (by unfold Sm;omega)
  clear h1 h2 h3 v1 v2 v3 o6
  rw [ha.out] at HS ⊢
  rw [hb.out] at HP ⊢
  rw [hd.out] at HT ⊢
  have hw1:Ext w (((w.alloc (.cells #[.int .i64 a,.int .i64 s.st,.slice A n c] 38)).alloc (.cells #[.int .i64 b,.slice B m1 d1,.slice B' m1' d1'] 31)).alloc (.cells #[.int .i64 d,.int .i64 t.st,.slice C k c2] 38)):=(((Ext.refl w).alloc _).alloc _).alloc _
  obtain⟨b1,b2,b3⟩:=zO (Ext.refl (((w.alloc (.cells #[.int .i64 a,.int .i64 s.st,.slice A n c] 38)).alloc (.cells #[.int .i64 b,.slice B m1 d1,.slice B' m1' d1'] 31)).alloc (.cells #[.int .i64 d,.int .i64 t.st,.slice C k c2] 38)))
  go_enter Tryz.func99,Tryz.ntmps99
  go_upto_region 1 with fail
  generalize ((w.alloc (.cells #[.int .i64 a,.int .i64 s.st,.slice A n c] 38)).alloc (.cells #[.int .i64 b,.slice B m1 d1,.slice B' m1' d1'] 31)).alloc (.cells #[.int .i64 d,.int .i64 t.st,.slice C k c2] 38)=w1 at *
  have c1:=b1.cell
  go_wp2_with (first
   |(go_at_call 185;with_reducible refine (HS.out _ hw1).mono ?_;rw [H1.out];rintro e w2 ⟨rfl,hx2⟩;have hw2:=hw1.trans hx2;have c2:=(b2.ext hx2).cell)
   |(go_at_call 186;with_reducible refine (HP.out _ hw2).mono ?_;rw [H2.out];rintro e w3 ⟨rfl,hx3⟩;have hw3:=hw2.trans hx3;have c3:=(b3.ext (hx2.trans hx3)).cell)
   |(go_at_call 185;with_reducible refine (HT.out _ hw3).mono ?_;rw [H3.out];rintro e w4 ⟨rfl,hx4⟩;have hw4:=hw3.trans hx4;have k1:=(b1.ext (hx2.trans (hx3.trans hx4))).cell;have k2:=(b2.ext (hx2.trans (hx3.trans hx4))).cell;have k3:=(b3.ext (hx2.trans (hx3.trans hx4))).cell))
  go_ret
  exact⟨zB (by rw [hr.out]),hw4⟩
 all_goals
  have hr:=za (show iface s p t = -1 by unfold iface;rw [h1,h2,h3];rfl)
  have H1:=za h1
  have H2:=za h2
  have H3:=za h3
  clear h1 h2 h3
  have hw1:Ext w (((w.alloc (.cells #[.int .i64 s.al,.int .i64 s.st,.slice A n c] 38)).alloc (.cells #[.int .i64 p.al,.slice B m1 d1,.slice B' m1' d1'] 31)).alloc (.cells #[.int .i64 t.al,.int .i64 t.st,.slice C k c2] 38)):=(((Ext.refl w).alloc _).alloc _).alloc _
  obtain⟨b1,b2,b3⟩:=zO (Ext.refl (((w.alloc (.cells #[.int .i64 s.al,.int .i64 s.st,.slice A n c] 38)).alloc (.cells #[.int .i64 p.al,.slice B m1 d1,.slice B' m1' d1'] 31)).alloc (.cells #[.int .i64 t.al,.int .i64 t.st,.slice C k c2] 38)))
  go_enter Tryz.func99,Tryz.ntmps99
  go_upto_region 1 with fail
  generalize ((w.alloc (.cells #[.int .i64 s.al,.int .i64 s.st,.slice A n c] 38)).alloc (.cells #[.int .i64 p.al,.slice B m1 d1,.slice B' m1' d1'] 31)).alloc (.cells #[.int .i64 t.al,.int .i64 t.st,.slice C k c2] 38)=w1 at *
  have c1:=b1.cell
  go_wp2_with (first
   |(go_at_call 185;with_reducible refine (HS.out _ hw1).mono ?_;rw [H1.out];rintro e w2 ⟨rfl,hx2⟩;have hw2:=hw1.trans hx2;have c2:=(b2.ext hx2).cell)
   |(go_at_call 186;with_reducible refine (HP.out _ hw2).mono ?_;rw [H2.out];rintro e w3 ⟨rfl,hx3⟩;have hw3:=hw2.trans hx3;have c3:=(b3.ext (hx2.trans hx3)).cell)
   |(go_at_call 185;with_reducible refine (HT.out _ hw3).mono ?_;rw [H3.out];rintro e w4 ⟨rfl,hx4⟩;have hw4:=hw3.trans hx4))
  go_ret
  exact⟨zB (by rw [hr.out]),by first|exact hw4|exact hw3|exact hw2⟩
theorem zfM (h:zN w lo hi A n s)(hp:zG w lo1 hi1 B m1 B' m1' p)(ht:zN w lo2 hi2 C k t) :
  Calls Tryz.prog 184 #[.agg #[.int .i64 s.al,.int .i64 s.st,.slice A n c],.agg #[.int .i64 p.al,.slice B m1 d1,.slice B' m1' d1'],.agg #[.int .i64 t.al,.int .i64 t.st,.slice C k c2]] w fun e w'=>e=.returned (.int .i64 (iface s p t))∧Ext w w':=by
 have HS:=za (fun W (hW:Ext w W)=>zaa (c:=c) (h.ext hW))
 have HP:=za (fun W (hW:Ext w W)=>zD _ _ _ _ d1 _ _ d1' _ _ (hp.ext hW))
 have HT:=za (fun W (hW:Ext w W)=>zaa (c:=c2) (ht.ext hW))
 clear h hp ht
 cases h1:zl s<;>cases h2:zi p<;>cases h3:zl t
 case true.true.true =>
  have H1:=za h1
  have H2:=za h2
  have H3:=za h3
  have v1:=zP h1
  have v2:=(zj h2).1
  have v3:=zP h3
  obtain⟨a,ha⟩:∃ a:Nat,Hid (s.al=a):=⟨s.al.toNat,by unfold Hid;omega⟩
  obtain⟨b,hb⟩:∃ a:Nat,Hid (p.al=a):=⟨p.al.toNat,by unfold Hid;omega⟩
  obtain⟨d,hd⟩:∃ a:Nat,Hid (t.al=a):=⟨t.al.toNat,by unfold Hid;omega⟩
  have hr:=za (show iface s p t=((((a|||b)&&&d:Nat)):Int) by unfold iface;rw [h1,h2,h3,ha.out,hb.out,hd.out];rfl)
  rw [ha.out] at v1
  rw [hb.out] at v2
  rw [hd.out] at v3
  have a6:a≤63:=by omega
  have b6:b≤63:=by omega
  have d6:d≤63:=by omega
  have o6:=Nat.or_lt_two_pow (n:=6) (x:=a) (y:=b) (by omega) (by omega)
  have ho:=zbG (a:=a) (b:=b) (by unfold Sm;omega) (by unfold Sm;omega)
  have hn:=zcl (a:=a|||b) (b:=d) (by unfold Sm;omega) (by unfold Sm;omega)
  clear h1 h2 h3 v1 v2 v3 o6
  rw [ha.out] at HS ⊢
  rw [hb.out] at HP ⊢
  rw [hd.out] at HT ⊢
  have hw1:Ext w (((w.alloc (.cells #[.int .i64 a,.int .i64 s.st,.slice A n c] 38)).alloc (.cells #[.int .i64 b,.slice B m1 d1,.slice B' m1' d1'] 31)).alloc (.cells #[.int .i64 d,.int .i64 t.st,.slice C k c2] 38)):=(((Ext.refl w).alloc _).alloc _).alloc _
  obtain⟨b1,b2,b3⟩:=zO (Ext.refl (((w.alloc (.cells #[.int .i64 a,.int .i64 s.st,.slice A n c] 38)).alloc (.cells #[.int .i64 b,.slice B m1 d1,.slice B' m1' d1'] 31)).alloc (.cells #[.int .i64 d,.int .i64 t.st,.slice C k c2] 38)))
  go_enter Tryz.func184,Tryz.ntmps184
  go_upto_region 1 with fail
  generalize ((w.alloc (.cells #[.int .i64 a,.int .i64 s.st,.slice A n c] 38)).alloc (.cells #[.int .i64 b,.slice B m1 d1,.slice B' m1' d1'] 31)).alloc (.cells #[.int .i64 d,.int .i64 t.st,.slice C k c2] 38)=w1 at *
  have c1:=b1.cell
  go_wp2_with (first
   |(go_at_call 95;with_reducible refine (HS.out _ hw1).mono ?_;rw [H1.out];rintro e w2 ⟨rfl,hx2⟩;have hw2:=hw1.trans hx2;have c2:=(b2.ext hx2).cell)
   |(go_at_call 96;with_reducible refine (HP.out _ hw2).mono ?_;rw [H2.out];rintro e w3 ⟨rfl,hx3⟩;have hw3:=hw2.trans hx3;have c3:=(b3.ext (hx2.trans hx3)).cell)
   |(go_at_call 95;with_reducible refine (HT.out _ hw3).mono ?_;rw [H3.out];rintro e w4 ⟨rfl,hx4⟩;have hw4:=hw3.trans hx4;have k1:=(b1.ext (hx2.trans (hx3.trans hx4))).cell;have k2:=(b2.ext (hx2.trans (hx3.trans hx4))).cell;have k3:=(b3.ext (hx2.trans (hx3.trans hx4))).cell))
  go_ret
  exact⟨zB (by rw [hr.out]),hw4⟩
 all_goals
  have hr:=za (show iface s p t = -1 by unfold iface;rw [h1,h2,h3];rfl)
  have H1:=za h1
  have H2:=za h2
  have H3:=za h3
  clear h1 h2 h3
  have hw1:Ext w (((w.alloc (.cells #[.int .i64 s.al,.int .i64 s.st,.slice A n c] 38)).alloc (.cells #[.int .i64 p.al,.slice B m1 d1,.slice B' m1' d1'] 31)).alloc (.cells #[.int .i64 t.al,.int .i64 t.st,.slice C k c2] 38)):=(((Ext.refl w).alloc _).alloc _).alloc _
  obtain⟨b1,b2,b3⟩:=zO (Ext.refl (((w.alloc (.cells #[.int .i64 s.al,.int .i64 s.st,.slice A n c] 38)).alloc (.cells #[.int .i64 p.al,.slice B m1 d1,.slice B' m1' d1'] 31)).alloc (.cells #[.int .i64 t.al,.int .i64 t.st,.slice C k c2] 38)))
  go_enter Tryz.func184,Tryz.ntmps184
  go_upto_region 1 with fail
  generalize ((w.alloc (.cells #[.int .i64 s.al,.int .i64 s.st,.slice A n c] 38)).alloc (.cells #[.int .i64 p.al,.slice B m1 d1,.slice B' m1' d1'] 31)).alloc (.cells #[.int .i64 t.al,.int .i64 t.st,.slice C k c2] 38)=w1 at *
  have c1:=b1.cell
  go_wp2_with (first
   |(go_at_call 95;with_reducible refine (HS.out _ hw1).mono ?_;rw [H1.out];rintro e w2 ⟨rfl,hx2⟩;have hw2:=hw1.trans hx2;have c2:=(b2.ext hx2).cell)
   |(go_at_call 96;with_reducible refine (HP.out _ hw2).mono ?_;rw [H2.out];rintro e w3 ⟨rfl,hx3⟩;have hw3:=hw2.trans hx3;have c3:=(b3.ext (hx2.trans hx3)).cell)
   |(go_at_call 95;with_reducible refine (HT.out _ hw3).mono ?_;rw [H3.out];rintro e w4 ⟨rfl,hx4⟩;have hw4:=hw3.trans hx4))
  go_ret
  exact⟨zB (by rw [hr.out]),by first|exact hw4|exact hw3|exact hw2⟩
end
theorem zdU {w w':World} {cs ds es fs:Array Value} {t u v x:TypeId}(h:Ext ((((w.alloc (.cells cs t)).alloc (.cells ds u)).alloc (.cells es v)).alloc (.cells fs x)) w'):Blk w' w.heap.size t cs∧Blk w' (w.heap.size+1) u ds∧Blk w' (w.heap.size+1+1) v es∧Blk w' (w.heap.size+1+1+1) x fs:=by
 have h2:=zO (((Ext.refl _).alloc _).trans h)
 refine⟨h2.1,h2.2.1,h2.2.2,?_⟩
 have:=zbH h
 simpa using this
noncomputable def zbI (s t:Sys) (p a:Aut):Int:=if iface s p t<0∨zi a=false then 1 else if a.al≠iface s p t then 2 else if zen s a p=false then 3 else if zcT [t] a=false then 4 else 0
section
variable {lo hi n c:Nat} {A:Option Addr} {s:Sys} {lo1 hi1 m1 d1 m1' d1':Nat} {B B':Option Addr} {p:Aut} {lo2 hi2 k c2:Nat} {C:Option Addr} {t:Sys} {w:World}
variable {lo3 hi3 m2 d2 m2' d2':Nat} {D D':Option Addr} {a:Aut}
theorem yK10a4 {P:Prop}(h:P:=by
 go_enter Tryz.func102,Tryz.ntmps102
 go_upto_region 1 with fail
 generalize (((w.alloc (.cells #[.int .i64 s.al,.int .i64 s.st,.slice A n c] 38)).alloc (.cells #[.int .i64 t.al,.int .i64 t.st,.slice C k c2] 38)).alloc (.cells #[.int .i64 p.al,.slice B m1 d1,.slice B' m1' d1'] 31)).alloc (.cells #[.int .i64 a.al,.slice D m2 d2,.slice D' m2' d2'] 31)=w1 at *
 have c1:=b1.cell
 have c2:=b2.cell
 have c3:=b3.cell
 go_wp2_with (first
  |(go_at_call 99;with_reducible refine (HI.out _ hw1).mono ?_;rintro e w2 ⟨rfl,hx2⟩;have hw2:=hw1.trans hx2;have c42:=(b4.ext hx2).cell)
  |(go_at_call 186;with_reducible refine (HA.out _ hw2).mono ?_;rw [H1.out];rintro e w3 ⟨rfl,hx3⟩;have hx13:=hx2.trans hx3;have hw3:=hw1.trans hx13;have c13:=(b1.ext hx13).cell;have c33:=(b3.ext hx13).cell;have c43:=(b4.ext hx13).cell)
  |(go_at_call 190;with_reducible refine (HU.out _ hw3).mono ?_;rintro e w4 ⟨rfl,hx4⟩;have hx14:=hx13.trans hx4;have hw4:=hw1.trans hx14;have c24:=(b2.ext hx14).cell;have c44:=(b4.ext hx14).cell)
  |(go_at_call 191;with_reducible refine (HK.out _ hw4).mono ?_;rintro e w5 ⟨rfl,hx5⟩;have hw5:=hw4.trans hx5))
 go_ret
 exact⟨zB (by rw [hr.out];try rfl),by first|exact hw5|exact hw4|exact hw3|exact hw2⟩
 ):P:=h
theorem zee (h:zN w lo hi A n s)(ht:zN w lo2 hi2 C k t)(hp:zG w lo1 hi1 B m1 B' m1' p)(ha:zG w lo3 hi3 D m2 D' m2' a) :
  Calls Tryz.prog 102 #[.agg #[.int .i64 s.al,.int .i64 s.st,.slice A n c],.agg #[.int .i64 t.al,.int .i64 t.st,.slice C k c2],.agg #[.int .i64 p.al,.slice B m1 d1,.slice B' m1' d1'],.agg #[.int .i64 a.al,.slice D m2 d2,.slice D' m2' d2']] w fun e w'=>e=.returned (.int .i64 (zbI s t p a))∧Ext w w':=by
 have HI:=za (fun W (hW:Ext w W)=>zaY (c:=c) (d1:=d1) (d1':=d1') (c2:=c2) (h.ext hW) (hp.ext hW) (ht.ext hW))
 have HA:=za (fun W (hW:Ext w W)=>zJ _ _ _ _ d2 _ _ d2' _ _ (ha.ext hW))
 have HU:=za (fun W (hW:Ext w W)=>zgz (c:=c) (d1:=d2) (d1':=d2') (d2:=d1) (d2':=d1') (h.ext hW) (ha.ext hW) (hp.ext hW))
 have HK:=za (fun W (hW:Ext w W)=>zfg (c:=c2) (d2:=d2) (d2':=d2') (ht.ext hW) (ha.ext hW))
 have hr:=za (show zbI s t p a=if iface s p t<0∨zi a=false then 1 else if a.al≠iface s p t then 2 else if zen s a p=false then 3 else if zcT [t] a=false then 4 else 0 from rfl)
 clear h hp ht ha
 have hw1:Ext w ((((w.alloc (.cells #[.int .i64 s.al,.int .i64 s.st,.slice A n c] 38)).alloc (.cells #[.int .i64 t.al,.int .i64 t.st,.slice C k c2] 38)).alloc (.cells #[.int .i64 p.al,.slice B m1 d1,.slice B' m1' d1'] 31)).alloc (.cells #[.int .i64 a.al,.slice D m2 d2,.slice D' m2' d2'] 31)):=((((Ext.refl w).alloc _).alloc _).alloc _).alloc _
 obtain⟨b1,b2,b3,b4⟩:=zdU (Ext.refl ((((w.alloc (.cells #[.int .i64 s.al,.int .i64 s.st,.slice A n c] 38)).alloc (.cells #[.int .i64 t.al,.int .i64 t.st,.slice C k c2] 38)).alloc (.cells #[.int .i64 p.al,.slice B m1 d1,.slice B' m1' d1'] 31)).alloc (.cells #[.int .i64 a.al,.slice D m2 d2,.slice D' m2' d2'] 31)))
 generalize iface s p t=I at *
 generalize zen s a p=u at *
 generalize zcT [t] a=v at *
 by_cases hI:I<0
 ·rw [if_pos (Or.inl hI)] at hr
  obtain⟨y,H1⟩:∃ y,Hid (zi a=y):=⟨_,rfl⟩
  have hI2:=za hI
  exact yK10a4
 have hI0:¬ I<0:=hI
 have hI1:0≤I:=by omega
 clear hI
 cases h1:zi a
 ·rw [h1,if_pos (Or.inr rfl)] at hr
  have H1:=za h1
  clear h1
  exact yK10a4
 rw [h1,if_neg (by rintro (h|h);exact hI0 h;cases h)] at hr
 have H1:=za h1
 clear h1
 by_cases h2:a.al=I
 ·rw [if_neg (fun hn=>hn h2)] at hr
  subst h2
  cases u<;>cases v
  all_goals
   have H3:=za (rfl:true=true)
   have H4:=za (rfl:true=true)
   exact yK10a4
 ·rw [if_pos h2] at hr
  have h2b:(a.al==I)=false:=by simpa using h2
  exact yK10a4
theorem yK10a5 {P:Prop}(h:P:=by
 go_enter Tryz.func98,Tryz.ntmps98
 go_upto_region 1 with fail
 generalize (((w.alloc (.cells #[.int .i64 s.al,.int .i64 s.st,.slice A n c] 38)).alloc (.cells #[.int .i64 t.al,.int .i64 t.st,.slice C k c2] 38)).alloc (.cells #[.int .i64 p.al,.slice B m1 d1,.slice B' m1' d1'] 31)).alloc (.cells #[.int .i64 a.al,.slice D m2 d2,.slice D' m2' d2'] 31)=w1 at *
 have c1:=b1.cell
 have c2:=b2.cell
 have c3:=b3.cell
 go_wp2_with (first
  |(go_at_call 184;with_reducible refine (HI.out _ hw1).mono ?_;rintro e w2 ⟨rfl,hx2⟩;have hw2:=hw1.trans hx2;have c42:=(b4.ext hx2).cell)
  |(go_at_call 96;with_reducible refine (HA.out _ hw2).mono ?_;rw [H1.out];rintro e w3 ⟨rfl,hx3⟩;have hx13:=hx2.trans hx3;have hw3:=hw1.trans hx13;have c13:=(b1.ext hx13).cell;have c33:=(b3.ext hx13).cell;have c43:=(b4.ext hx13).cell)
  |(go_at_call 117;with_reducible refine (HU.out _ hw3).mono ?_;rintro e w4 ⟨rfl,hx4⟩;have hx14:=hx13.trans hx4;have hw4:=hw1.trans hx14;have c24:=(b2.ext hx14).cell;have c44:=(b4.ext hx14).cell)
  |(go_at_call 118;with_reducible refine (HK.out _ hw4).mono ?_;rintro e w5 ⟨rfl,hx5⟩;have hw5:=hw4.trans hx5))
 go_ret
 exact⟨zB (by rw [hr.out];try rfl),by first|exact hw5|exact hw4|exact hw3|exact hw2⟩
 ):P:=h
theorem zec (h:zN w lo hi A n s)(ht:zN w lo2 hi2 C k t)(hp:zG w lo1 hi1 B m1 B' m1' p)(ha:zG w lo3 hi3 D m2 D' m2' a)(hT:Tab w) :
  Calls Tryz.prog 98 #[.agg #[.int .i64 s.al,.int .i64 s.st,.slice A n c],.agg #[.int .i64 t.al,.int .i64 t.st,.slice C k c2],.agg #[.int .i64 p.al,.slice B m1 d1,.slice B' m1' d1'],.agg #[.int .i64 a.al,.slice D m2 d2,.slice D' m2' d2']] w fun e w'=>e=.returned (.int .i64 (zbI s t p a))∧Ext w w':=by
 have HI:=za (fun W (hW:Ext w W)=>zfM (c:=c) (d1:=d1) (d1':=d1') (c2:=c2) (h.ext hW) (hp.ext hW) (ht.ext hW))
 have HA:=za (fun W (hW:Ext w W)=>zD _ _ _ _ d2 _ _ d2' _ _ (ha.ext hW))
 have HU:=za (fun W (hW:Ext w W)=>zgo (c:=c) (d1:=d2) (d1':=d2') (d2:=d1) (d2':=d1') (h.ext hW) (ha.ext hW) (hp.ext hW) (hT.ext hW))
 have HK:=za (fun W (hW:Ext w W)=>zeW (c:=c2) (d2:=d2) (d2':=d2') (ht.ext hW) (ha.ext hW) (hT.ext hW))
 have hr:=za (show zbI s t p a=if iface s p t<0∨zi a=false then 1 else if a.al≠iface s p t then 2 else if zen s a p=false then 3 else if zcT [t] a=false then 4 else 0 from rfl)
 clear h hp ht ha
 have hw1:Ext w ((((w.alloc (.cells #[.int .i64 s.al,.int .i64 s.st,.slice A n c] 38)).alloc (.cells #[.int .i64 t.al,.int .i64 t.st,.slice C k c2] 38)).alloc (.cells #[.int .i64 p.al,.slice B m1 d1,.slice B' m1' d1'] 31)).alloc (.cells #[.int .i64 a.al,.slice D m2 d2,.slice D' m2' d2'] 31)):=((((Ext.refl w).alloc _).alloc _).alloc _).alloc _
 obtain⟨b1,b2,b3,b4⟩:=zdU (Ext.refl ((((w.alloc (.cells #[.int .i64 s.al,.int .i64 s.st,.slice A n c] 38)).alloc (.cells #[.int .i64 t.al,.int .i64 t.st,.slice C k c2] 38)).alloc (.cells #[.int .i64 p.al,.slice B m1 d1,.slice B' m1' d1'] 31)).alloc (.cells #[.int .i64 a.al,.slice D m2 d2,.slice D' m2' d2'] 31)))
 generalize iface s p t=I at *
 generalize zen s a p=u at *
 generalize zcT [t] a=v at *
 by_cases hI:I<0
 ·rw [if_pos (Or.inl hI)] at hr
  obtain⟨y,H1⟩:∃ y,Hid (zi a=y):=⟨_,rfl⟩
  have hI2:=za hI
  exact yK10a5
 have hI0:¬ I<0:=hI
 have hI1:0≤I:=by omega
 clear hI
 cases h1:zi a
 ·rw [h1,if_pos (Or.inr rfl)] at hr
  have H1:=za h1
  clear h1
  exact yK10a5
 rw [h1,if_neg (by rintro (h|h);exact hI0 h;cases h)] at hr
 have H1:=za h1
 clear h1
 by_cases h2:a.al=I
 ·rw [if_neg (fun hn=>hn h2)] at hr
  subst h2
  cases u<;>cases v
  all_goals
   have H3:=za (rfl:true=true)
   have H4:=za (rfl:true=true)
   exact yK10a5
 ·rw [if_pos h2] at hr
  have h2b:(a.al==I)=false:=by simpa using h2
  exact yK10a5
end
def zK (hd:Bool) (a:Aut) (s:ByteArray):Bool:=if hd then zi a&&s.toList.isEmpty else zeB a&&zaV s
theorem zay (lo hi:Nat) (A:Option Addr) (n c:Nat) (A':Option Addr) (n' c':Nat)(hd:Bool) (a:Aut) (s:ByteArray) (w:World)(h:zG w lo hi A n A' n' a)(hs:s.size≤9223372036854775807) :
  Calls Tryz.prog 100 #[.agg #[.bool hd,.int .i64 a.al,.slice A n c,.slice A' n' c',.string s]] w fun e w'=>e=.returned (.bool (zK hd a s))∧Ext w w':=by
 have hR:=fun W (hW:Ext w W)=>h.ext hW
 have HR:=za hR
 clear hR
 cases hd
 ·cases hb:zeB a
  all_goals
   have Hb:=za hb
   clear hb
   go_enter Tryz.func100,Tryz.ntmps100
   go_wp2_with (first
    |(go_at_call 187;refine (spec_l13None _ _ _ _ _ _ _ _ _ _ (HR.out _ ?_)).mono ?_;exact (Ext.refl _).alloc _;rw [Hb.out];rintro e w2 ⟨rfl,hext2⟩;have hbox:=zcr hext2)
    |(go_at_call 142;refine (zaZ s _ hs).mono ?_;rintro e w' ⟨rfl,rfl⟩))
   go_ret
   exact⟨zk (by rw [zK,Hb.out];simp),((Ext.refl _).alloc _).trans hext2⟩
 ·cases hb:zi a
  all_goals
   have Hb:=za hb
   clear hb
   go_enter Tryz.func100,Tryz.ntmps100
   go_wp2_with (go_at_call 186;refine (zJ _ _ _ _ _ _ _ _ _ _ (HR.out _ ?_)).mono ?_;exact (Ext.refl _).alloc _;rw [Hb.out];rintro e w2 ⟨rfl,hext2⟩;have hbox:=zcr hext2)
   go_ret
   exact⟨zk (by rw [zK,Hb.out];simp),((Ext.refl _).alloc _).trans hext2⟩
theorem zbe (lo hi:Nat) (A:Option Addr) (n c:Nat) (A':Option Addr) (n' c':Nat)(hd:Bool) (a:Aut) (s:ByteArray) (w:World)(h:zG w lo hi A n A' n' a)(hs:s.size≤9223372036854775807) :
  Calls Tryz.prog 97 #[.agg #[.bool hd,.int .i64 a.al,.slice A n c,.slice A' n' c',.string s]] w fun e w'=>e=.returned (.bool (zK hd a s))∧Ext w w':=by
 have hR:=fun W (hW:Ext w W)=>h.ext hW
 have HR:=za hR
 clear hR
 cases hd
 ·have Hv:=za (show zeB a=(decide (a.al=0)&&(decide (n=0)&&decide (n'=0))) by unfold zeB;rw [← h.n1,← h.n2])
  have hl1:=h.1.len
  have hl2:=h.2.2.len
  clear h
  by_cases h0:a.al=0
  ·have hb:((a.al:Int)==0)=true:=by simp [h0]
   have H0:=za h0
   clear h0
   by_cases h1:n=0
   ·have hb1:((n:Int)==0)=true:=by simp [h1]
    have H1:=za h1
    clear h1
    by_cases h2:n'=0
    ·have hb2:((n':Int)==0)=true:=by simp [h2]
     have H2:=za h2
     clear h2
     go_enter Tryz.func97,Tryz.ntmps97
     go_wp2_with (go_at_call 120;refine (zcK s _ hs).mono ?_;rintro e w' ⟨rfl,rfl⟩)
     go_ret
     exact⟨zk (by rw [zK,Hv.out,H0.out,H1.out,H2.out];simp),((Ext.refl _).alloc _).alloc _⟩
    ·have hb2:((n':Int)==0)=false:=by simp [h2]
     go_enter Tryz.func97,Tryz.ntmps97
     go_wp2_with fail
     go_ret
     exact⟨zk (by rw [zK,Hv.out];simp [h2]),((Ext.refl _).alloc _).alloc _⟩
   ·have hb1:((n:Int)==0)=false:=by simp [h1]
    go_enter Tryz.func97,Tryz.ntmps97
    go_wp2_with fail
    go_ret
    exact⟨zk (by rw [zK,Hv.out];simp [h1]),((Ext.refl _).alloc _).alloc _⟩
  ·have hb:((a.al:Int)==0)=false:=by simp [h0]
   go_enter Tryz.func97,Tryz.ntmps97
   go_wp2_with fail
   go_ret
   exact⟨zk (by rw [zK,Hv.out];simp [h0]),((Ext.refl _).alloc _).alloc _⟩
 ·cases hb:zi a
  all_goals
   have Hb:=za hb
   clear hb
   go_enter Tryz.func97,Tryz.ntmps97
   go_wp2_with (go_at_call 96;refine (zD _ _ _ _ _ _ _ _ _ _ (HR.out _ ?_)).mono ?_;exact (Ext.refl _).alloc _;rw [Hb.out];rintro e w2 ⟨rfl,hext2⟩;have hbox:=zcr hext2)
   go_ret
   exact⟨zk (by rw [zK,Hb.out];simp),((Ext.refl _).alloc _).trans hext2⟩
def zcL (p:Aut) (q:Nat) (ls:List Nat):Nat:=ls.foldl (aGo p) q
theorem zcv (p:Aut) (q:Nat) (ls:List Nat) (l:Nat):zcL p q (ls++[l])=aGo p (zcL p q ls) l:=by simp [zcL]
theorem zdL {p:Aut}(hv:zi p=true) {ls:List Nat}(h:∀ l∈ls,l<6) {q:Nat}(hq:q<p.next.length):zcL p q ls<p.next.length:=by
 induction ls generalizing q with
 |nil=>exact hq
 |cons l r ih=>exact ih (fun x hx=>h x (List.mem_cons_of_mem _ hx)) (zdC hv hq (h l List.mem_cons_self))
theorem runA_filter (p:Aut) (ls:List Nat) (q:Nat):zcL p q (ls.filter fun l=>p.al.toNat.testBit l)=zcL p q ls:=by
 induction ls generalizing q with
 |nil=>rfl
 |cons l r ih =>
  rw [List.filter_cons]
  show _=zcL p (aGo p q l) r
  cases hb:p.al.toNat.testBit l
  ·have e:aGo p q l=q:=by unfold aGo;rw [hb];rfl
   rw [e];simpa using ih q
  ·simp only [if_true]
   exact ih (aGo p q l)
theorem zhp (s:ByteArray) (a:Nat):(zbd s a).data.toList=zeZ a s.data.toList:=by
 unfold zbd strOfNums bnum
 simp only [List.map_map]
 refine (List.map_congr_left (g:=id) fun b _=>?_).trans (List.map_id _)
 simp
theorem wl_restB {s:ByteArray}(h:zaV s=true) (a:Nat):wl (zbd s a)=(wl s).filter fun l=>a.testBit l:=by
 unfold wl
 rw [zhp]
 unfold zeZ
 have hb:∀ b∈s.data.toList,97≤b.toNat∧b.toNat≤102:=by
  intro b hb
  obtain⟨i,hi⟩:=List.getElem?_of_mem hb
  have hil:i<s.size:=by have:=(List.getElem?_eq_some_iff.1 hi).1;simpa using this
  rw [zbZ s i hil] at hi
  obtain rfl:=Option.some.inj hi
  exact zaQ h hil
 generalize s.data.toList=L at hb
 clear h
 induction L with
 |nil=>rfl
 |cons b r ih =>
  have h0:=hb b List.mem_cons_self
  have ih:=ih fun x hx=>hb x (List.mem_cons_of_mem _ hx)
  have e:hasB a (ltr b.toNat)=a.testBit (b.toNat - 97):=by
   unfold hasB ltr
   rw [if_neg (by omega),decide_eq_true (by omega),Bool.true_and]
   congr 1
   omega
  rw [List.filter_cons,List.map_cons,List.filter_cons,e]
  cases a.testBit (b.toNat - 97)
  ·simpa using ih
  ·simp only [if_true,List.map_cons]
   rw [ih]
theorem zfd {s:ByteArray}(h:zaV s=true) (a:Nat):inB (zbd s a) a=true:=by
 unfold inB zdJ
 rw [zhp,Bool.and_eq_true,decide_eq_true_eq]
 refine⟨Nat.le_trans (zfu s a) (zaR h),?_⟩
 rw [List.all_eq_true]
 intro b hb
 exact (List.mem_filter.1 hb).2
def zcq (p:Aut) (t:ByteArray):Bool:=zi p&&(zaV t&&!zbr p (zcL p 0 (wl t)))
section
variable {lo hi m d m' d':Nat} {B B':Option Addr} {p:Aut} {t:ByteArray} {w:World}
theorem zhr (h:zG w lo hi B m B' m' p)(hv:zi p=true)(ht:zaV t=true) :
  Calls Tryz.prog 260 #[.agg #[.int .i64 p.al,.slice B m d,.slice B' m' d'],.int .i64 0,.string t] w fun e w'=>e=.returned (.int .i64 (zcL p 0 (wl t):Nat))∧Ext w w':=by
 have HS:=za (fun W (hW:Ext w W)=>h.ext hW)
 have hsz:=zaR ht
 have Hb:=za (fun k hk=>zaQ ht (k:=k) hk)
 have hn1:=(zj hv).2.1
 have Hv:=za hv
 have Hlt:=za (fun k=>zdL hv (ls:=(wl t).take k) (fun l hl=>zik ht l (List.mem_of_mem_take hl)) (q:=0) (by omega))
 clear h hv ht
 go_enter Tryz.func260,Tryz.ntmps260
 go_upto_region 1 with fail
 have hw1:Ext w (w.alloc (.cells #[.int .i64 p.al,.slice B m d,.slice B' m' d'] 31)):=(Ext.refl w).alloc _
 have b1:=Blk.new w 31 #[.int .i64 p.al,.slice B m d,.slice B' m' d']
 generalize w.alloc (.cells #[.int .i64 p.al,.slice B m d,.slice B' m' d'] 31)=w1 at *
 go_wp2_with fail
 go_loopw [1,7] (fun v i wr=>∃ k x:Nat,i=.int .i64 k∧k≤t.size∧v=.int .i64 x∧Hid (x=zcL p 0 ((wl t).take k))∧Ext w1 wr) (fun _ i _=>t.size - (intOf i).toNat)
 case atStart=>exact⟨0,0,rfl,Nat.zero_le _,rfl,rfl,Ext.refl _⟩
 case round =>
  obtain⟨k,x,rfl,hk,rfl,hxo,hxr⟩:=hrel
  by_cases hlt:k<t.size
  ·have hbb:=Hb.out k hlt
   obtain⟨l,hl⟩:∃ l:Nat,Hid ((t[k].toNat:Int) - 97=l):=⟨t[k].toNat - 97,by unfold Hid;omega⟩
   have hl6:l<6:=by have:=hl.out;omega
   have hst:=za (show aGo p x l=zcL p 0 ((wl t).take (k+1)) by
    rw [List.take_add_one,zeu hlt,Option.toList_some,zcv,← hxo.out]
    congr 1
    have:=hl.out;omega)
   have hxl:x<p.next.length:=by rw [hxo.out];exact Hlt.out k
   have HC:=za (fun W (hW:Ext w1 W)=>zda (d:=d) (d':=d') (HS.out W (hw1.trans hW)) Hv.out hxl hl6)
   generalize aGo p x l=y at *
   have c1:∀ W,Ext wr W→∀ j,W.cell? ⟨w.heap.size,j,none⟩=#[Value.int .i64 p.al,.slice B m d,.slice B' m' d'][j]?:=fun W hW=>(b1.ext (hxr.trans hW)).cell
   have hww:=Ext.refl wr
   clear hbb
   go_upto_region 4 with fail
   refine uR (fun X=>Ext wr X) [5] (zw.of [0,1,2,3,4,5,6]) ?_
   refine uQ ?_
   (refine zd rfl rfl rfl (fun K hK=>?_);go_simp)
   refine (zbj t k hlt _).mono ?_
   rw [hl.out]
   rintro e w' ⟨rfl,rfl⟩
   refine hK.out _ _ hww.drew ?_
   refine pT ?_
   (refine zb rfl rfl rfl rfl (fun K hK=>?_))
   go_simp
   refine (HC.out _ (hxr.trans hww.drew)).mono ?_
   rintro e w5 ⟨rfl,hx5⟩
   refine hK.out _ _ ?_
   refine pT ?_
   refine uQ ?_
   refine ze ?_
   have hx6:=hxr.trans (hww.drew.trans hx5)
   go_wp2_with fail
   go_roundw
   case rel=>exact⟨k+1,y,by go_num,by omega,rfl,hst,hx6⟩
   case measure=>simp [intOf];omega
  ·obtain rfl:k=t.size:=by omega
   have zio:=za (show x=zcL p 0 (wl t) by rw [hxo.out,List.take_of_length_le (by rw [zev];exact Nat.le_refl _)])
   go_wp2
   go_ret
   exact⟨zB (by rw [zio.out]),hw1.trans hxr⟩
theorem zeJ (h:zG w lo hi B m B' m' p)(ht:t.size≤9223372036854775807) :
  Calls Tryz.prog 189 #[.agg #[.int .i64 p.al,.slice B m d,.slice B' m' d'],.string t] w fun e w'=>e=.returned (.bool (zcq p t))∧Ext w w':=by
 have HA:=za (fun W (hW:Ext w W)=>zJ _ _ _ _ d _ _ d' _ _ (h.ext hW))
 have HR:=za (fun W (hW:Ext w W)=>zhr (d:=d) (d':=d') (t:=t) (h.ext hW))
 have HB:=za (fun W (hW:Ext w W) q hq=>zcN (q:=q) (h.ext hW) hq)
 have hm2:=za h.n2
 clear h
 have hr:=za (show zcq p t=(zi p&&(zaV t&&!zbr p (zcL p 0 (wl t)))) from rfl)
 have hw1:Ext w (w.alloc (.cells #[.int .i64 p.al,.slice B m d,.slice B' m' d'] 31)):=(Ext.refl w).alloc _
 have b1:=Blk.new w 31 #[.int .i64 p.al,.slice B m d,.slice B' m' d']
 by_cases hall:zi p=true∧zaV t=true
 ·obtain⟨h1,h2⟩:=hall
  have H1:=za h1
  have H2:=za h2
  have hq:=zdL h1 (zik h2) (q:=0) (by have:=(zj h1).2.1;omega)
  have hac:=(zj h1).2.2.1
  have hqm:zcL p 0 (wl t)<m':=by have:=hm2.out;omega
  clear h1 h2 hac
  go_enter Tryz.func189,Tryz.ntmps189
  go_upto_region 3 with (first
   |(go_at_call 186;refine (HA.out _ hw1).mono ?_;rw [H1.out];rintro e w2 ⟨rfl,hx2⟩)
   |(go_at_call 142;refine (zaZ _ _ ht).mono ?_;rw [H2.out];rintro e w3 ⟨rfl,rfl⟩))
  have HR2:=za (fun W hW=>HR.out W hW H1.out H2.out)
  clear HR
  generalize hqe:zcL p 0 (wl t)=q at *
  clear hqe hq
  obtain⟨ad,hBe,_⟩:=HB.out w (Ext.refl w) q hqm
  have cA:∀ W,Ext w W→W.cell? (ad.add q)=some (.bool (zbr p q)):=by
   intro W hW
   obtain⟨ad',e,hc⟩:=HB.out W hW q hqm
   rw [hBe] at e
   obtain rfl:=Option.some.inj e
   exact hc
  subst hBe
  have hw2:=hw1.trans hx2
  generalize w.alloc (.cells #[.int .i64 p.al,.slice B m d,.slice (some ad) m' d'] 31)=w1 at *
  have c1:∀ W,Ext w2 W→∀ j,W.cell? ⟨w.heap.size,j,none⟩=#[Value.int .i64 p.al,.slice B m d,.slice (some ad) m' d'][j]?:=fun W hW=>(b1.ext (hx2.trans hW)).cell
  have dA:∀ W,Ext w2 W→W.cell? (ad.add q)=some (.bool (zbr p q)):=fun W hW=>cA W (hw2.trans hW)
  have hww:=Ext.refl w2
  refine uR (fun X=>Ext w2 X) [] (zw.of [0,1,2,3,4,5,6,7,8]) ?_
  refine uQ ?_
  (refine zd rfl rfl rfl (fun K hK=>?_);go_simp)
  refine (HR2.out _ (hw2.trans hww.drew)).mono ?_
  rintro e w5 ⟨rfl,hx5⟩
  have hx6:=hww.drew.trans hx5
  refine hK.out _ _ hx6 ?_
  refine pT ?_
  refine uQ ?_
  refine ze ?_
  go_wp2_with fail
  go_ret
  exact⟨zk (by rw [hr.out,H1.out,H2.out];rfl),hw2.trans hx6⟩
 ·have hr2:=za (show zcq p t=false by
   rw [hr.out]
   cases h1:zi p
   ·rfl
   ·cases h2:zaV t
    ·rfl
    ·exact absurd ⟨h1,h2⟩ hall)
  cases h1:zi p<;>cases h2:zaV t
  case true.true=>exact absurd ⟨h1,h2⟩ hall
  all_goals
   have H1:=za h1
   have H2:=za h2
   clear h1 h2 hall
   go_enter Tryz.func189,Tryz.ntmps189
   go_wp2_with (first
    |(go_at_call 186;refine (HA.out _ hw1).mono ?_;rw [H1.out];rintro e w2 ⟨rfl,hx2⟩)
    |(go_at_call 142;refine (zaZ _ _ ht).mono ?_;rw [H2.out];rintro e w3 ⟨rfl,rfl⟩))
   go_ret
   exact⟨zk (by rw [hr2.out]),hw1.trans hx2⟩
end
section
variable {lo hi m d m' d':Nat} {B B':Option Addr} {p:Aut} {t:ByteArray} {w:World}
theorem zgp (h:zG w lo hi B m B' m' p)(hv:zi p=true)(ht:inB t p.al.toNat=true) :
  Calls Tryz.prog 213 #[.agg #[.int .i64 p.al,.slice B m d,.slice B' m' d'],.string t] w fun e w'=>e=.returned (.int .i64 (zcL p 0 (wl t):Nat))∧Ext w w':=by
 have HT:=za (fun W (hW:Ext w W)=>zbf (d:=d) (d':=d') (h.ext hW) hv)
 have HA:=za (fun W (hW:Ext w W)=>zD _ _ _ _ d _ _ d' _ _ (h.ext hW))
 have hwd:=zaN ht
 have hsz:=zaR hwd
 have Hb:=za (fun k hk=>zaQ hwd (k:=k) hk)
 have hn1:=(zj hv).2.1
 obtain⟨al0,al1⟩:=(zj hv).1
 obtain⟨al,hal⟩:∃ al:Nat,Hid (p.al=al):=⟨p.al.toNat,by unfold Hid;omega⟩
 have hal6:al≤63:=by have:=hal.out;omega
 have hto:p.al.toNat=al:=by have:=hal.out;omega
 rw [hto] at ht
 have Hi:=za (show (decide (t.size≤50000)&&zdJ t al)=true from ht)
 have Hv:=za hv
 have Hlt:=za (fun k=>zdL hv (ls:=(wl t).take k) (fun l hl=>zik hwd l (List.mem_of_mem_take hl)) (q:=0) (by omega))
 clear h hv ht hto hwd
 rw [hal.out] at HT HA ⊢
 clear al0 al1
 go_enter Tryz.func213,Tryz.ntmps213
 go_upto_region 1 with fail
 have hw1:Ext w (w.alloc (.cells #[.int .i64 al,.slice B m d,.slice B' m' d'] 31)):=(Ext.refl w).alloc _
 have b1:=Blk.new w 31 #[.int .i64 al,.slice B m d,.slice B' m' d']
 generalize w.alloc (.cells #[.int .i64 al,.slice B m d,.slice B' m' d'] 31)=w1 at *
 have c1:=b1.cell
 go_wp2_with (first
  |(go_at_call 96;refine (HA.out _ hw1).mono ?_;rw [Hv.out];rintro e w2 ⟨rfl,hx2⟩;have hw2:=hw1.trans hx2;have c2:=(b1.ext hx2).cell)
  |(go_at_call 106;refine (zaP t al _ (by omega) hal6).mono ?_;rw [Hi.out];rintro e w3 ⟨rfl,rfl⟩)
  |(go_at_call 155;refine (HT.out _ hw2).mono ?_;rintro e w4 ⟨TA,tc,rfl,hTO,hx4⟩))
 have hw4:=hw2.trans hx4
 have HM:=za (fun W (hW:Ext w4 W)=>(hTO.ext hW).at_)
 clear hTO c1 c2
 go_loopw [6,7,22] (fun v _ i wr=>∃ k x:Nat,i=.int .i64 k∧k≤t.size∧v=.int .i64 x∧Hid (x=zcL p 0 ((wl t).take k))∧Ext w4 wr) (fun _ _ i _=>t.size - (intOf i).toNat)
 case atStart=>exact⟨0,0,rfl,Nat.zero_le _,rfl,rfl,Ext.refl _⟩
 case round =>
  obtain⟨k,x,rfl,hk,rfl,hxo,hxr⟩:=hrel
  by_cases hlt:k<t.size
  ·have hbb:=Hb.out k hlt
   obtain⟨l,hl⟩:∃ l:Nat,Hid (ltr t[k].toNat=l∧l<6∧t[k].toNat - 97=l):=⟨t[k].toNat - 97,by unfold Hid ltr;rw [if_neg (by omega)];omega⟩
   have hl6:=hl.out.2.1
   have hl6i:((l:Nat):Int)<6:=by omega
   have hst:=za (show aGo p x l=zcL p 0 ((wl t).take (k+1)) by
    rw [List.take_add_one,zeu hlt,Option.toList_some,zcv,← hxo.out,hl.out.2.2])
   have hxl:x<p.next.length:=by rw [hxo.out];exact Hlt.out k
   obtain⟨lo2,hi2,hta⟩:=HM.out wr hxr
   have HC:=za (fun W (hW:Ext wr W)=>(hta.ext hW).at_ hxl hl6)
   obtain⟨g,o,hTA,hc0⟩:=hta.at_ hxl hl6
   subst hTA
   generalize aGo p x l=y at *
   have d1:∀ W,Ext wr W→W.cell? ⟨g,o+x*6+l,none⟩=some (.int .i64 (y:Nat)):=fun W hW=>hW.cell_some hc0
   clear hbb hta HC
   generalize p.next.length=N at *
   go_upto_region 8 with fail
   have hww:=Ext.refl wr
   refine uR (fun X=>Ext wr X) [] (zw.of [0,1,2,3,5,4,6,7,8]) ?_
   refine uQ ?_
   (refine zd rfl rfl rfl (fun K hK=>?_);go_simp)
   refine (zbn t k hlt _).mono ?_
   rw [hl.out.1]
   rintro e w' ⟨rfl,rfl⟩
   refine hK.out _ _ hww.drew ?_
   refine pT ?_
   refine uQ ?_
   refine ze ?_
   have hx6:=hxr.trans hww.drew
   go_wp2_with fail
   go_roundw
   case rel=>exact⟨k+1,y,by go_num,by omega,rfl,hst,hx6⟩
   case measure=>simp [intOf];omega
  ·obtain rfl:k=t.size:=by omega
   have zio:=za (show x=zcL p 0 (wl t) by rw [hxo.out,List.take_of_length_le (by rw [zev];exact Nat.le_refl _)])
   go_wp2
   go_ret
   exact⟨zB (by rw [zio.out]),hw4.trans hxr⟩
theorem zfL (h:zG w lo hi B m B' m' p)(hv:zi p=true)(ht:inB t p.al.toNat=true) :
  Calls Tryz.prog 121 #[.agg #[.int .i64 p.al,.slice B m d,.slice B' m' d'],.string t] w fun e w'=>e=.returned (.bool (zbr p (zcL p 0 (wl t))))∧Ext w w':=by
 have HA:=za (fun W (hW:Ext w W)=>zgp (d:=d) (d':=d') (h.ext hW) hv ht)
 have HB:=za (fun W (hW:Ext w W) q hq=>zcN (q:=q) (h.ext hW) hq)
 have hq:=zdL hv (zik (zaN ht)) (q:=0) (by have:=(zj hv).2.1;omega)
 have hac:=(zj hv).2.2.1
 have hm2:=h.n2
 have hqm:zcL p 0 (wl t)<m':=by omega
 clear h hv ht hac
 generalize hqe:zcL p 0 (wl t)=q at *
 clear hqe hq hm2
 obtain⟨ad,hBe,_⟩:=HB.out w (Ext.refl w) q hqm
 have cA:∀ W,Ext w W→W.cell? (ad.add q)=some (.bool (zbr p q)):=by
  intro W hW
  obtain⟨ad',e,hc⟩:=HB.out W hW q hqm
  rw [hBe] at e
  obtain rfl:=Option.some.inj e
  exact hc
 subst hBe
 have hw1:Ext w (w.alloc (.cells #[.int .i64 p.al,.slice B m d,.slice (some ad) m' d'] 31)):=(Ext.refl w).alloc _
 have b1:=Blk.new w 31 #[.int .i64 p.al,.slice B m d,.slice (some ad) m' d']
 go_enter Tryz.func121,Tryz.ntmps121
 go_upto_region 1 with fail
 generalize w.alloc (.cells #[.int .i64 p.al,.slice B m d,.slice (some ad) m' d'] 31)=w1 at *
 have c1:=b1.cell
 go_wp2_with (go_at_call 213;refine (HA.out _ hw1).mono ?_;rintro e w2 ⟨rfl,hx2⟩;have c2:=(b1.ext hx2).cell;have cA2:=cA _ (hw1.trans hx2))
 go_ret
 exact⟨zk (by rfl),hw1.trans hx2⟩
theorem zcs (h:zG w lo hi B m B' m' p)(ht:t.size≤9223372036854775807) :
  Calls Tryz.prog 56 #[.agg #[.int .i64 p.al,.slice B m d,.slice B' m' d'],.string t] w fun e w'=>e=.returned (.bool (zcq p t))∧Ext w w':=by
 have HA:=za (fun W (hW:Ext w W)=>zD _ _ _ _ d _ _ d' _ _ (h.ext hW))
 have hr:=za (show zcq p t=(zi p&&(zaV t&&!zbr p (zcL p 0 (wl t)))) from rfl)
 have hw1:Ext w (w.alloc (.cells #[.int .i64 p.al,.slice B m d,.slice B' m' d'] 31)):=(Ext.refl w).alloc _
 have b1:=Blk.new w 31 #[.int .i64 p.al,.slice B m d,.slice B' m' d']
 cases h1:zi p
 ·have H1:=za h1
  clear h1
  go_enter Tryz.func56,Tryz.ntmps56
  go_upto_region 1 with fail
  generalize w.alloc (.cells #[.int .i64 p.al,.slice B m d,.slice B' m' d'] 31)=w1 at *
  have c1:=b1.cells
  have hww:=Ext.refl w1
  refine uR (fun X=>Ext w1 X) [12] (zw.of [0,1,2,3,4,5,6,7,8,9,10,11,12,13,14,15]) ?_
  refine uQ ?_
  (refine zd rfl rfl rfl (fun K hK=>?_);go_simp)
  refine (HA.out _ (hw1.trans hww.drew)).mono ?_
  rw [H1.out]
  rintro e w2 ⟨rfl,hx2⟩
  have hx3:=hww.drew.trans hx2
  refine hK.out _ _ hx3 ?_
  refine pT ?_
  refine uQ ?_
  refine ze ?_
  go_wp2_with fail
  go_ret
  exact⟨zk (by rw [hr.out,H1.out];rfl),hw1.trans hx3⟩
 ·cases h2:zaV t
  ·have H1:=za h1
   have H2:=za h2
   clear h1 h2
   go_enter Tryz.func56,Tryz.ntmps56
   go_upto_region 1 with fail
   generalize w.alloc (.cells #[.int .i64 p.al,.slice B m d,.slice B' m' d'] 31)=w1 at *
   have c1:=b1.cells
   have hww:=Ext.refl w1
   refine uR (fun X=>Ext w1 X) [12] (zw.of [0,1,2,3,4,5,6,7,8,9,10,11,12,13,14,15]) ?_
   refine uQ ?_
   (refine zd rfl rfl rfl (fun K hK=>?_);go_simp)
   refine (HA.out _ (hw1.trans hww.drew)).mono ?_
   rw [H1.out]
   rintro e w2 ⟨rfl,hx2⟩
   have hx3:=hww.drew.trans hx2
   refine hK.out _ _ hx3 ?_
   refine pT ?_
   refine uQ ?_
   (refine zd rfl rfl rfl (fun K hK=>?_);go_simp)
   refine (zcK _ _ ht).mono ?_
   rw [H2.out]
   rintro e w3 ⟨rfl,rfl⟩
   refine hK.out _ _ hx3 ?_
   refine pT ?_
   refine uQ ?_
   refine ze ?_
   go_wp2_with fail
   go_ret
   exact⟨zk (by rw [hr.out,H1.out,H2.out];rfl),hw1.trans hx3⟩
  ·obtain⟨al0,al1⟩:=(zj h1).1
   obtain⟨al,hal⟩:∃ al:Nat,Hid (p.al=al):=⟨p.al.toNat,by unfold Hid;omega⟩
   have hal6:al≤63:=by have:=hal.out;omega
   have hto:=za (show p.al.toNat=al by have:=hal.out;omega)
   have HR:=za (fun W=>zeY (w:=W) h2 hal6)
   have HW:=za (fun W (hW:Ext w W)=>zfL (d:=d) (d':=d') (t:=zbd t al) (h.ext hW) h1 (by rw [hto.out];exact zfd h2 al))
   have hrr:=za (show zcL p 0 (wl (zbd t al))=zcL p 0 (wl t) by rw [wl_restB h2,← hto.out,runA_filter])
   rw [hrr.out] at HW
   have H1:=za h1
   have H2:=za h2
   clear h h1 h2 al0 al1
   rw [hal.out] at HA HW hw1 b1 ⊢
   generalize zbd t al=t' at *
   go_enter Tryz.func56,Tryz.ntmps56
   go_upto_region 1 with fail
   generalize w.alloc (.cells #[.int .i64 al,.slice B m d,.slice B' m' d'] 31)=w1 at *
   have c1:=b1.cells
   have hww:=Ext.refl w1
   refine uR (fun X=>Ext w1 X) [12] (zw.of [0,1,2,3,4,5,6,7,8,9,10,11,12,13,14,15]) ?_
   refine uQ ?_
   (refine zd rfl rfl rfl (fun K hK=>?_);go_simp)
   refine (HA.out _ (hw1.trans hww.drew)).mono ?_
   rw [H1.out]
   rintro e w2 ⟨rfl,hx2⟩
   have hx3:=hww.drew.trans hx2
   refine hK.out _ _ hx3 ?_
   refine pT ?_
   refine uQ ?_
   (refine zd rfl rfl rfl (fun K hK=>?_);go_simp)
   refine (zcK _ _ ht).mono ?_
   rw [H2.out]
   rintro e w3 ⟨rfl,rfl⟩
   refine hK.out _ _ hx3 ?_
   refine pT ?_
   refine uQ ?_
   (refine zd rfl rfl rfl (fun K hK=>?_);go_simp)
   refine (HR.out _).mono ?_
   rintro e w4 ⟨rfl,hx4⟩
   have hx5:=hx3.trans hx4
   refine hK.out _ _ hx5 ?_
   refine pT ?_
   refine uQ ?_
   (refine zb rfl rfl rfl rfl (fun K hK=>?_))
   go_simp
   refine (HW.out _ (hw1.trans hx5)).mono ?_
   rintro e w6 ⟨rfl,hx6⟩
   refine hK.out _ _ ?_
   refine pT ?_
   refine uQ ?_
   refine ze ?_
   go_wp2_with fail
   go_ret
   exact⟨zk (by rw [hr.out,H1.out,H2.out];rfl),hw1.trans (hx5.trans hx6)⟩
end
theorem zcw {w:World} {g lo hi n c lo2 hi2 k c2:Nat} {A C:Option Addr} {s t:Sys}(hb:Blk w g 38 #[.int .i64 s.al,.int .i64 s.st,.slice A n c,.int .i64 t.al,.int .i64 t.st,.slice C k c2])(h:zN w lo hi A n s)(h':zN w lo2 hi2 C k t):∃ lo hi,zey w lo hi (some ⟨g,0,none⟩) 2 [s,t]:=by
 refine⟨0,hi+hi2+g+1,rfl,[.int .i64 s.al,.int .i64 s.st,.slice A n c,.int .i64 t.al,.int .i64 t.st,.slice C k c2],⟨rfl,by omega,fun _=>⟨_,rfl,Nat.zero_le _,by dsimp only;omega,fun j u hu=>?_⟩⟩,fun j u hu=>?_⟩
 ·rw [zT,Nat.zero_add,hb.cell]
  simpa using hu
 ·match j with
  |0 =>
   simp at hu;subst hu
   exact⟨A,n,c,rfl,rfl,rfl,h.1,h.2.more (Nat.zero_le _) (by omega)⟩
  |1 =>
   simp at hu;subst hu
   exact⟨C,k,c2,rfl,rfl,rfl,h'.1,h'.2.more (Nat.zero_le _) (by omega)⟩
  |j+2=>simp at hu
def zcd (s t:Sys) (p:Aut) (x:ByteArray):Int:=if zgI [s,t] x=false then 6 else if zcq p x=false then 7 else 0
noncomputable def zcB (s t:Sys) (p:Aut) (hd:Bool) (a:Aut) (x:ByteArray):Int:=
 if iface s p t<0 then 1 else if zK hd a x=false then 2 else if hd=false then zcd s t p x
 else if zbI s t p a=2 then 3 else if zbI s t p a=3 then 4 else if zbI s t p a=4 then 5 else 0
theorem zcR (s t:Sys) (p:Aut):iface s p t<0↔(zl s&&(zi p&&zl t))=false:=by
 unfold iface
 cases h:(zl s&&(zi p&&zl t))
 ·simp
 ·simp
section
variable {lo hi n c:Nat} {A:Option Addr} {s:Sys} {lo1 hi1 m1 d1 m1' d1':Nat} {B B':Option Addr} {p:Aut} {lo2 hi2 k c2:Nat} {C:Option Addr} {t:Sys} {x:ByteArray} {w:World}
theorem zhX (h:zN w lo hi A n s)(ht:zN w lo2 hi2 C k t)(hp:zG w lo1 hi1 B m1 B' m1' p)(hx:x.size≤9223372036854775807) :
  Calls Tryz.prog 101 #[.agg #[.int .i64 s.al,.int .i64 s.st,.slice A n c],.agg #[.int .i64 t.al,.int .i64 t.st,.slice C k c2],.agg #[.int .i64 p.al,.slice B m1 d1,.slice B' m1' d1'],.string x] w fun e w'=>e=.returned (.int .i64 (zcd s t p x))∧Ext w w':=by
 have HS:=za (fun W (hW:Ext w W)=>h.ext hW)
 have HS':=za (fun W (hW:Ext w W)=>ht.ext hW)
 have HB:=za (fun W (hW:Ext w W)=>zeJ (d:=d1) (d':=d1') (hp.ext hW) hx)
 have hr:=za (show zcd s t p x=if zgI [s,t] x=false then 6 else if zcq p x=false then 7 else 0 from rfl)
 clear h ht hp
 have hw1:Ext w (((w.alloc (.cells #[.int .i64 s.al,.int .i64 s.st,.slice A n c] 38)).alloc (.cells #[.int .i64 t.al,.int .i64 t.st,.slice C k c2] 38)).alloc (.cells #[.int .i64 p.al,.slice B m1 d1,.slice B' m1' d1'] 31)):=(((Ext.refl w).alloc _).alloc _).alloc _
 obtain⟨b1,b2,b3⟩:=zO (Ext.refl (((w.alloc (.cells #[.int .i64 s.al,.int .i64 s.st,.slice A n c] 38)).alloc (.cells #[.int .i64 t.al,.int .i64 t.st,.slice C k c2] 38)).alloc (.cells #[.int .i64 p.al,.slice B m1 d1,.slice B' m1' d1'] 31)))
 cases h1:zgI [s,t] x<;>cases h2:zcq p x
 all_goals
  have H1:=za h1
  have H2:=za h2
  clear h1 h2
  go_enter Tryz.func101,Tryz.ntmps101
  go_upto_region 1 with fail
  generalize ((w.alloc (.cells #[.int .i64 s.al,.int .i64 s.st,.slice A n c] 38)).alloc (.cells #[.int .i64 t.al,.int .i64 t.st,.slice C k c2] 38)).alloc (.cells #[.int .i64 p.al,.slice B m1 d1,.slice B' m1' d1'] 31)=w1 at *
  have c1:=b1.cells
  have c2':=b2.cells
  have c3:=b3.cells
  have hx0:=Ext.refl w1
  have e6:=Blk.new w1 38 #[.int .i64 s.al,.int .i64 s.st,.slice A n c,.int .i64 t.al,.int .i64 t.st,.slice C k c2]
  have f6:=(Ext.refl w1).alloc (.cells #[.int .i64 s.al,.int .i64 s.st,.slice A n c,.int .i64 t.al,.int .i64 t.st,.slice C k c2] 38)
  obtain⟨l1,l2,hsl⟩:=zcw e6 (HS.out _ (hw1.trans f6)) (HS'.out _ (hw1.trans f6))
  go_wp2_with (first
   |(go_at_call 188;with_reducible refine (zcY hsl hx).mono ?_;rw [H1.out];rintro e w2 ⟨rfl,hx2⟩;have hx12:=f6.trans hx2)
   |(go_at_call 189;with_reducible refine (HB.out _ (hw1.trans hx12)).mono ?_;rw [H2.out];rintro e w3 ⟨rfl,hx3⟩;have hx13:=hx12.trans hx3))
  go_ret
  exact⟨zB (by rw [hr.out,H1.out];try rw [H2.out];try rfl),hw1.trans (by first|exact hx13|exact hx12)⟩
variable {lo3 hi3 m2 d2 m2' d2':Nat} {D D':Option Addr} {a:Aut} {hd:Bool}
theorem yK10b3 {P:Prop}(h:P:=by
 have c1:=b1.cells
 have c2':=b2.cells
 have c3:=b3.cells
 have c4:=b4.cells
 have hx0:=Ext.refl w1
 go_wp2_with (first
  |(go_at_call 99;with_reducible refine (HI.out _ hw1).mono ?_;rintro e w2 ⟨rfl,hx2⟩;have hw2:=hw1.trans hx2)
  |(go_at_call 100;with_reducible refine (HC.out _ hw2).mono ?_;rintro e w3 ⟨rfl,hx3⟩;have hx13:=hx2.trans hx3;have hw3:=hw1.trans hx13)
  |(go_at_call 101;with_reducible refine (HT.out _ hw3).mono ?_;rintro e w4 ⟨rfl,hx4⟩;have hw4:=hw3.trans hx4)
  |(go_at_call 102;with_reducible refine (HF.out _ hw3).mono ?_;rintro e w4 ⟨rfl,hx4⟩;have hw4:=hw3.trans hx4))
 go_ret
 exact⟨zB (by rw [hr.out];try rfl),by first|exact hw4|exact hw3|exact hw2⟩
 ):P:=h
theorem yK10a6 {P:Prop}(h:P:=by
 rw [if_pos rfl] at hr
 go_enter Tryz.func39,Tryz.ntmps39
 go_upto_region 1 with fail
 generalize (((w.alloc (.cells #[.int .i64 s.al,.int .i64 s.st,.slice A n c] 38)).alloc (.cells #[.int .i64 t.al,.int .i64 t.st,.slice C k c2] 38)).alloc (.cells #[.int .i64 p.al,.slice B m1 d1,.slice B' m1' d1'] 31)).alloc (.cells #[.bool true,.int .i64 a.al,.slice D m2 d2,.slice D' m2' d2',.string x] 33)=w1 at *
 exact yK10b3
 ):P:=h
theorem yK10a7 {P:Prop}(h:P:=by
 go_enter Tryz.func39,Tryz.ntmps39
 go_upto_region 1 with fail
 generalize (((w.alloc (.cells #[.int .i64 s.al,.int .i64 s.st,.slice A n c] 38)).alloc (.cells #[.int .i64 t.al,.int .i64 t.st,.slice C k c2] 38)).alloc (.cells #[.int .i64 p.al,.slice B m1 d1,.slice B' m1' d1'] 31)).alloc (.cells #[.bool hd,.int .i64 a.al,.slice D m2 d2,.slice D' m2' d2',.string x] 33)=w1 at *
 exact yK10b3
 ):P:=h
theorem yK10a8 {P:Prop}(h:P:=by
 exact yK10b3
 ):P:=h
theorem spec_CheckCertificate (h:zN w lo hi A n s)(ht:zN w lo2 hi2 C k t)(hp:zG w lo1 hi1 B m1 B' m1' p)(ha:zG w lo3 hi3 D m2 D' m2' a)(hxs:x.size≤9223372036854775807) :
  Calls Tryz.prog 39 #[.agg #[.int .i64 s.al,.int .i64 s.st,.slice A n c],.agg #[.int .i64 t.al,.int .i64 t.st,.slice C k c2],.agg #[.int .i64 p.al,.slice B m1 d1,.slice B' m1' d1'],.agg #[.bool hd,.int .i64 a.al,.slice D m2 d2,.slice D' m2' d2',.string x]] w fun e w'=>e=.returned (.int .i64 (zcB s t p hd a x))∧Ext w w':=by
 have HI:=za (fun W (hW:Ext w W)=>zaY (c:=c) (d1:=d1) (d1':=d1') (c2:=c2) (h.ext hW) (hp.ext hW) (ht.ext hW))
 have HT:=za (fun W (hW:Ext w W)=>zhX (c:=c) (d1:=d1) (d1':=d1') (c2:=c2) (x:=x) (h.ext hW) (ht.ext hW) (hp.ext hW) hxs)
 have HC:=za (fun W (hW:Ext w W)=>zay _ _ _ _ d2 _ _ d2' hd _ x _ (ha.ext hW) hxs)
 have HF:=za (fun W (hW:Ext w W)=>zee (c:=c) (d1:=d1) (d1':=d1') (c2:=c2) (d2:=d2) (d2':=d2') (h.ext hW) (ht.ext hW) (hp.ext hW) (ha.ext hW))
 have hr:=za (show zcB s t p hd a x=if iface s p t<0 then 1 else if zK hd a x=false then 2 else if hd=false then zcd s t p x
  else if zbI s t p a=2 then 3 else if zbI s t p a=3 then 4 else if zbI s t p a=4 then 5 else 0 from rfl)
 clear h hp ht ha
 have hw1:Ext w ((((w.alloc (.cells #[.int .i64 s.al,.int .i64 s.st,.slice A n c] 38)).alloc (.cells #[.int .i64 t.al,.int .i64 t.st,.slice C k c2] 38)).alloc (.cells #[.int .i64 p.al,.slice B m1 d1,.slice B' m1' d1'] 31)).alloc (.cells #[.bool hd,.int .i64 a.al,.slice D m2 d2,.slice D' m2' d2',.string x] 33)):=((((Ext.refl w).alloc _).alloc _).alloc _).alloc _
 obtain⟨b1,b2,b3,b4⟩:=zdU (Ext.refl ((((w.alloc (.cells #[.int .i64 s.al,.int .i64 s.st,.slice A n c] 38)).alloc (.cells #[.int .i64 t.al,.int .i64 t.st,.slice C k c2] 38)).alloc (.cells #[.int .i64 p.al,.slice B m1 d1,.slice B' m1' d1'] 31)).alloc (.cells #[.bool hd,.int .i64 a.al,.slice D m2 d2,.slice D' m2' d2',.string x] 33)))
 generalize iface s p t=I at *
 generalize zcd s t p x=R at *
 generalize zbI s t p a=F at *
 by_cases hI:I<0
 ·rw [if_pos hI] at hr
  have hv:=za (rfl:true=true)
  have hv2:=za (rfl:true=true)
  generalize zK hd a x=cv at *
  exact yK10a7
 have hI1:0≤I:=by omega
 rw [if_neg hI] at hr
 cases hv0:zK hd a x
 ·rw [hv0,if_pos rfl] at hr
  have hv:=za hv0
  clear hv0
  rw [hv.out] at HC
  exact yK10a7
 rw [hv0,if_neg (by decide)] at hr
 have hv:=za hv0
 clear hv0
 rw [hv.out] at HC
 cases hd
 ·rw [if_pos rfl] at hr
  go_enter Tryz.func39,Tryz.ntmps39
  go_upto_region 1 with fail
  generalize (((w.alloc (.cells #[.int .i64 s.al,.int .i64 s.st,.slice A n c] 38)).alloc (.cells #[.int .i64 t.al,.int .i64 t.st,.slice C k c2] 38)).alloc (.cells #[.int .i64 p.al,.slice B m1 d1,.slice B' m1' d1'] 31)).alloc (.cells #[.bool false,.int .i64 a.al,.slice D m2 d2,.slice D' m2' d2',.string x] 33)=w1 at *
  exact yK10a8
 rw [if_neg (by decide)] at hr
 by_cases f2:F=2
 ·subst f2
  exact yK10a6
 rw [if_neg f2] at hr
 have g2:(F==2)=false:=by simpa using f2
 by_cases f3:F=3
 ·subst f3
  exact yK10a6
 rw [if_neg f3] at hr
 have g3:(F==3)=false:=by simpa using f3
 by_cases f4:F=4
 ·subst f4
  exact yK10a6
 ·rw [if_neg f4] at hr
  have g4:(F==4)=false:=by simpa using f4
  go_enter Tryz.func39,Tryz.ntmps39
  go_upto_region 1 with fail
  generalize (((w.alloc (.cells #[.int .i64 s.al,.int .i64 s.st,.slice A n c] 38)).alloc (.cells #[.int .i64 t.al,.int .i64 t.st,.slice C k c2] 38)).alloc (.cells #[.int .i64 p.al,.slice B m1 d1,.slice B' m1' d1'] 31)).alloc (.cells #[.bool true,.int .i64 a.al,.slice D m2 d2,.slice D' m2' d2',.string x] 33)=w1 at *
  exact yK10a8
theorem yK10b1 {P:Prop}(h:P:=by
 generalize zcd s t p x=R at *
 go_enter Tryz.func38,Tryz.ntmps38
 go_upto_region 1 with fail
 generalize (((w.alloc (.cells #[.int .i64 s.al,.int .i64 s.st,.slice A n c] 38)).alloc (.cells #[.int .i64 t.al,.int .i64 t.st,.slice C k c2] 38)).alloc (.cells #[.int .i64 p.al,.slice B m1 d1,.slice B' m1' d1'] 31)).alloc (.cells #[.bool false,.int .i64 a.al,.slice D m2 d2,.slice D' m2' d2',.string x] 33)=w1 at *
 have c1:=b1.cells
 have c2':=b2.cells
 have c3:=b3.cells
 have c4:=b4.cells
 have hx0:=Ext.refl w1
 go_wp2_with (first
  |(go_at_call 95;with_reducible refine (HV.out _ hw1).mono ?_;rintro e w2 ⟨rfl,hx2⟩;have hw2:=hw1.trans hx2)
  |(go_at_call 95;with_reducible refine (HV'.out _ hw2).mono ?_;rintro e w3 ⟨rfl,hx3⟩;have hx13:=hx2.trans hx3;have hw3:=hw1.trans hx13)
  |(go_at_call 96;with_reducible refine (HP.out _ hw3).mono ?_;rintro e w4 ⟨rfl,hx4⟩;have hx14:=hx13.trans hx4;have hw4:=hw1.trans hx14)
  |(go_at_call 97;with_reducible refine (HC.out _ hw4).mono ?_;rintro e w5 ⟨rfl,hx5⟩;have hx15:=hx14.trans hx5;have hw5:=hw1.trans hx15;have e6:=Blk.new w5 38 #[.int .i64 s.al,.int .i64 s.st,.slice A n c,.int .i64 t.al,.int .i64 t.st,.slice C k c2];have f6:=(Ext.refl w5).alloc (.cells #[.int .i64 s.al,.int .i64 s.st,.slice A n c,.int .i64 t.al,.int .i64 t.st,.slice C k c2] 38);have hx16:=hx15.trans f6;have hw6:=hw1.trans hx16;obtain⟨l1,l2,hsl⟩:=zcw e6 (HS.out _ hw6) (HS'.out _ hw6))
  |(go_at_call 42;with_reducible refine (zH hsl (HT.out _ hw6) hxs).mono ?_;rw [Ht1.out];rintro e w7 ⟨rfl,hx7⟩;have hx17:=hx16.trans hx7;have hw7:=hw1.trans hx17)
  |(go_at_call 56;with_reducible refine (HB.out _ hw7).mono ?_;rintro e w8 ⟨rfl,hx8⟩;have hx18:=hx17.trans hx8;have hw8:=hw1.trans hx18)
  |(go_at_call 98;with_reducible refine (HF.out _ hw5).mono ?_;rintro e w9 ⟨rfl,hx9⟩;have hw9:=hw5.trans hx9))
 go_ret
 exact⟨zB (by rw [hr.out,hr2.out];try rfl),by first|exact hw9|exact hw8|exact hw7|exact hw5|exact hw4|exact hw3|exact hw2⟩
 ):P:=h
theorem yK10a1 {P:Prop}(h:P:=by
 rw [hb1] at HB
 clear hb1
 exact yK10b1
 ):P:=h
theorem yK10c1 {P:Prop}(h:P:=by
 have c1:=b1.cells
 have c2':=b2.cells
 have c3:=b3.cells
 have c4:=b4.cells
 have hx0:=Ext.refl w1
 go_wp2_with (first
  |(go_at_call 95;with_reducible refine (HV.out _ hw1).mono ?_;rintro e w2 ⟨rfl,hx2⟩;have hw2:=hw1.trans hx2)
  |(go_at_call 95;with_reducible refine (HV'.out _ hw2).mono ?_;rintro e w3 ⟨rfl,hx3⟩;have hx13:=hx2.trans hx3;have hw3:=hw1.trans hx13)
  |(go_at_call 96;with_reducible refine (HP.out _ hw3).mono ?_;rintro e w4 ⟨rfl,hx4⟩;have hx14:=hx13.trans hx4;have hw4:=hw1.trans hx14)
  |(go_at_call 97;with_reducible refine (HC.out _ hw4).mono ?_;rintro e w5 ⟨rfl,hx5⟩;have hx15:=hx14.trans hx5;have hw5:=hw1.trans hx15;have e6:=Blk.new w5 38 #[.int .i64 s.al,.int .i64 s.st,.slice A n c,.int .i64 t.al,.int .i64 t.st,.slice C k c2];have f6:=(Ext.refl w5).alloc (.cells #[.int .i64 s.al,.int .i64 s.st,.slice A n c,.int .i64 t.al,.int .i64 t.st,.slice C k c2] 38);have hx16:=hx15.trans f6;have hw6:=hw1.trans hx16;obtain⟨l1,l2,hsl⟩:=zcw e6 (HS.out _ hw6) (HS'.out _ hw6))
  |(go_at_call 42;with_reducible refine (zH hsl (HT.out _ hw6) hxs).mono ?_;rw [Ht1.out];rintro e w7 ⟨rfl,hx7⟩;have hx17:=hx16.trans hx7;have hw7:=hw1.trans hx17)
  |(go_at_call 56;with_reducible refine (HB.out _ hw7).mono ?_;rintro e w8 ⟨rfl,hx8⟩;have hx18:=hx17.trans hx8;have hw8:=hw1.trans hx18)
  |(go_at_call 98;with_reducible refine (HF.out _ hw5).mono ?_;rintro e w9 ⟨rfl,hx9⟩;have hw9:=hw5.trans hx9))
 go_ret
 exact⟨zB (by rw [hr.out];try rfl),by first|exact hw9|exact hw8|exact hw7|exact hw5|exact hw4|exact hw3|exact hw2⟩
 ):P:=h
theorem yK10b2 {P:Prop}(h:P:=by
 go_enter Tryz.func38,Tryz.ntmps38
 go_upto_region 1 with fail
 generalize (((w.alloc (.cells #[.int .i64 s.al,.int .i64 s.st,.slice A n c] 38)).alloc (.cells #[.int .i64 t.al,.int .i64 t.st,.slice C k c2] 38)).alloc (.cells #[.int .i64 p.al,.slice B m1 d1,.slice B' m1' d1'] 31)).alloc (.cells #[.bool true,.int .i64 a.al,.slice D m2 d2,.slice D' m2' d2',.string x] 33)=w1 at *
 exact yK10c1
 ):P:=h
theorem yK10a2 {P:Prop}(h:P:=by
 rw [if_pos rfl] at hr
 exact yK10b2
 ):P:=h
theorem yK10a3 {P:Prop}(h:P:=by
 go_enter Tryz.func38,Tryz.ntmps38
 go_upto_region 1 with fail
 generalize (((w.alloc (.cells #[.int .i64 s.al,.int .i64 s.st,.slice A n c] 38)).alloc (.cells #[.int .i64 t.al,.int .i64 t.st,.slice C k c2] 38)).alloc (.cells #[.int .i64 p.al,.slice B m1 d1,.slice B' m1' d1'] 31)).alloc (.cells #[.bool hd,.int .i64 a.al,.slice D m2 d2,.slice D' m2' d2',.string x] 33)=w1 at *
 exact yK10c1
 ):P:=h
theorem impl_CheckCertificate (h:zN w lo hi A n s)(ht:zN w lo2 hi2 C k t)(hp:zG w lo1 hi1 B m1 B' m1' p)(ha:zG w lo3 hi3 D m2 D' m2' a)(hxs:x.size≤9223372036854775807)(hT:Tab w) :
  Calls Tryz.prog 38 #[.agg #[.int .i64 s.al,.int .i64 s.st,.slice A n c],.agg #[.int .i64 t.al,.int .i64 t.st,.slice C k c2],.agg #[.int .i64 p.al,.slice B m1 d1,.slice B' m1' d1'],.agg #[.bool hd,.int .i64 a.al,.slice D m2 d2,.slice D' m2' d2',.string x]] w fun e w'=>e=.returned (.int .i64 (zcB s t p hd a x))∧Ext w w':=by
 have HT:=za (fun W (hW:Ext w W)=>hT.ext hW)
 have HS:=za (fun W (hW:Ext w W)=>h.ext hW)
 have HS':=za (fun W (hW:Ext w W)=>ht.ext hW)
 have HB:=za (fun W (hW:Ext w W)=>zcs (d:=d1) (d':=d1') (hp.ext hW) hxs)
 have HV:=za (fun W (hW:Ext w W)=>zaa (c:=c) (h.ext hW))
 have HV':=za (fun W (hW:Ext w W)=>zaa (c:=c2) (ht.ext hW))
 have HP:=za (fun W (hW:Ext w W)=>zD _ _ _ _ d1 _ _ d1' _ _ (hp.ext hW))
 have HC:=za (fun W (hW:Ext w W)=>zbe _ _ _ _ d2 _ _ d2' hd _ x _ (ha.ext hW) hxs)
 have HF:=za (fun W (hW:Ext w W)=>zec (c:=c) (d1:=d1) (d1':=d1') (c2:=c2) (d2:=d2) (d2':=d2') (h.ext hW) (ht.ext hW) (hp.ext hW) (ha.ext hW) (hT.ext hW))
 have hr:=za (show zcB s t p hd a x=if iface s p t<0 then 1 else if zK hd a x=false then 2 else if hd=false then zcd s t p x
  else if zbI s t p a=2 then 3 else if zbI s t p a=3 then 4 else if zbI s t p a=4 then 5 else 0 from rfl)
 clear h hp ht ha
 have hw1:Ext w ((((w.alloc (.cells #[.int .i64 s.al,.int .i64 s.st,.slice A n c] 38)).alloc (.cells #[.int .i64 t.al,.int .i64 t.st,.slice C k c2] 38)).alloc (.cells #[.int .i64 p.al,.slice B m1 d1,.slice B' m1' d1'] 31)).alloc (.cells #[.bool hd,.int .i64 a.al,.slice D m2 d2,.slice D' m2' d2',.string x] 33)):=((((Ext.refl w).alloc _).alloc _).alloc _).alloc _
 obtain⟨b1,b2,b3,b4⟩:=zdU (Ext.refl ((((w.alloc (.cells #[.int .i64 s.al,.int .i64 s.st,.slice A n c] 38)).alloc (.cells #[.int .i64 t.al,.int .i64 t.st,.slice C k c2] 38)).alloc (.cells #[.int .i64 p.al,.slice B m1 d1,.slice B' m1' d1'] 31)).alloc (.cells #[.bool hd,.int .i64 a.al,.slice D m2 d2,.slice D' m2' d2',.string x] 33)))
 generalize zbI s t p a=F at *
 cases h1:zl s<;>cases h2:zl t<;>cases h3:zi p
 case true.true.true =>
  rw [if_neg (by rw [zcR,h1,h2,h3];decide)] at hr
  rw [h1] at HV
  rw [h2] at HV'
  rw [h3] at HP
  clear h1 h2 h3
  cases hv0:zK hd a x
  ·rw [hv0,if_pos rfl] at hr
   have hv:=za hv0
   clear hv0
   rw [hv.out] at HC
   exact yK10a3
  rw [hv0,if_neg (by decide)] at hr
  have hv:=za hv0
  clear hv0
  rw [hv.out] at HC
  cases hd
  ·rw [if_pos rfl] at hr
   have hr2:=za (show zcd s t p x=if zgI [s,t] x=false then 6 else if zcq p x=false then 7 else 0 from rfl)
   cases ht1:zgI [s,t] x
   ·rw [ht1,if_pos rfl] at hr2
    have Ht1:=za ht1
    clear ht1
    exact yK10b1
   rw [ht1,if_neg (by decide)] at hr2
   have Ht1:=za ht1
   clear ht1
   cases hb1:zcq p x
   ·rw [hb1,if_pos rfl] at hr2
    exact yK10a1
   rw [hb1,if_neg (by decide)] at hr2
   exact yK10a1
  rw [if_neg (by decide)] at hr
  by_cases f2:F=2
  ·subst f2
   exact yK10a2
  rw [if_neg f2] at hr
  have g2:(F==2)=false:=by simpa using f2
  by_cases f3:F=3
  ·subst f3
   exact yK10a2
  rw [if_neg f3] at hr
  have g3:(F==3)=false:=by simpa using f3
  by_cases f4:F=4
  ·subst f4
   exact yK10a2
  ·rw [if_neg f4] at hr
   have g4:(F==4)=false:=by simpa using f4
   exact yK10b2
 all_goals
  rw [if_pos (by rw [zcR,h1,h2,h3];rfl)] at hr
  rw [h1] at HV
  rw [h2] at HV'
  rw [h3] at HP
  clear h1 h2 h3
  exact yK10a3
end
def Runs (s:Sys) (v:List Nat):Prop:=∃ q,zcA (cho s) [0] v q
def hidL (s:Sys) (A l:Nat):Prop:=l<6∧s.al.toNat.testBit l=true∧A.testBit l=false
inductive Cl (s:Sys) (p:Aut) (A:Nat) (B:Nat→Nat→Prop):Nat→Nat→Prop
 |base {q i:Nat} (h:B q i):Cl s p A B q i
 |hid {q i l q':Nat} (h:Cl s p A B q i) (hl:hidL s A l) (hq:q'∈cho s q l):Cl s p A B q' (aGo p i l)
def mvB (s:Sys) (p:Aut) (l:Nat) (B:Nat→Nat→Prop):Nat→Nat→Prop:=fun q' j=>∃ q i,B q i∧q'∈cho s q l∧j=aGo p i l
def prR (s:Sys) (p:Aut) (A:Nat):List Nat→Nat→Nat→Prop
 |[]=>Cl s p A (fun q i=>q=0∧i=0)
 |l :: r=>Cl s p A (mvB s p l (prR s p A r))
def PR (s:Sys) (p:Aut) (A:Nat) (v:List Nat):Nat→Nat→Prop:=prR s p A v.reverse
theorem PR_snoc (s:Sys) (p:Aut) (A:Nat) (v:List Nat) (l:Nat):PR s p A (v++[l])=Cl s p A (mvB s p l (PR s p A v)):=by
 unfold PR
 rw [List.reverse_append]
 rfl
def Bad (s:Sys) (p:Aut) (A:Nat) (v:List Nat):Prop:=∃ q i,PR s p A v q i∧zbr p i=false
def SafeW (s:Sys) (p:Aut) (A:Nat) (v:List Nat):Prop:=∀ k,k≤v.length→¬ Bad s p A (v.take k)
theorem zie {s:Sys}(hs:Sml s) {l:Nat}(hb:s.al.toNat.testBit l=true) (set q':Nat):(zbE s.edges set (l:Int)).testBit q'=true↔∃ q,set.testBit q=true∧q'∈cho s q l:=by
 obtain⟨h1,h2,hf,-⟩:=hs
 rw [zdb]
 constructor
 ·rintro ⟨e,he,⟨h3,h4⟩,rfl⟩
  obtain⟨hfr,hle,hto⟩:=hf e he
  refine⟨e.fr.toNat,h4,?_⟩
  unfold cho
  rw [if_pos hb,zF]
  refine⟨by omega,(zdu _ _ _ _).2 ⟨e,he,?_,rfl⟩⟩
  exact⟨by omega,h3⟩
 ·rintro ⟨q,h3,h4⟩
  unfold cho at h4
  rw [if_pos hb,zF] at h4
  obtain⟨e,he,⟨h5,h6⟩,h7⟩:=(zdu _ _ _ _).1 h4.2
  exact⟨e,he,⟨h6,by rw [h5];simpa using h3⟩,h7⟩
theorem zhs {s:Sys}(hs:Sml s) (x:Nat) (l:Int):zbE s.edges x l<65536:=by
 have h1:=zid hs.2.2.1 x l
 have h2:(2:Nat) ^ s.st.toNat≤2 ^ 16:=Nat.pow_le_pow_right (by omega) (by have:=hs.2.1;omega)
 exact Nat.lt_of_lt_of_le h1 h2
def bitS (T:List Nat) (i q:Nat):Prop:=(T.getD i 0).testBit q=true
theorem bitS_lt {T:List Nat} {i q:Nat}(h:bitS T i q):i<T.length:=by
 rcases Nat.lt_or_ge i T.length with h1|h1
 ·exact h1
 ·unfold bitS at h
  rw [List.getD_eq_getElem?_getD,List.getElem?_eq_none h1] at h
  simp at h
theorem zhy {T:List Nat} {j:Nat}(hj:j<T.length) (x i q:Nat):bitS (T.set j (T.getD j 0|||x)) i q↔bitS T i q∨(i=j∧x.testBit q=true):=by
 unfold bitS
 by_cases h:j=i
 ·subst h
  rw [List.getD_eq_getElem?_getD,List.getElem?_set_self hj,Option.getD_some,Nat.testBit_or,Bool.or_eq_true]
  simp
 ·rw [List.getD_eq_getElem?_getD,List.getElem?_set_ne h,← List.getD_eq_getElem?_getD]
  constructor
  ·exact .inl
  ·rintro (h1|⟨h1,-⟩)
   ·exact h1
   ·exact absurd h1.symm h
def zez (T:List Nat) (n:Nat) (B:Nat→Nat→Prop):Prop:=T.length=n∧(∀ x∈T,x<65536)∧∀ i q,bitS T i q↔B q i
structure ClI (s:Sys) (p:Aut) (A:Nat) (B:Nat→Nat→Prop) (n:Nat) (T:List Nat):Prop where
 len:T.length=n
 lt:∀ x∈T,x<65536
 base:∀ q i,B q i→bitS T i q
 sub:∀ i q,bitS T i q→Cl s p A B q i
def zdT (s:Sys) (p:Aut) (T:List Nat) (i l:Nat):Prop:=∀ q,bitS T i q→∀ q'∈cho s q l,bitS T (aGo p i l) q'
section
variable {s:Sys} {p:Aut} {A n:Nat} {B:Nat→Nat→Prop} {T:List Nat}
theorem zez.clI (h:zez T n B):ClI s p A B n T:=⟨h.1,h.2.1,fun q i hb=>(h.2.2 i q).2 hb,fun i q hb=>.base ((h.2.2 i q).1 hb)⟩
theorem zeD (h:∀ x∈T,x<65536) (i:Nat):T.getD i 0<65536:=by
 rw [List.getD_eq_getElem?_getD]
 cases h1:T[i]? with
 |none=>simp
 |some x=>exact h x (List.mem_of_getElem? h1)
theorem ClI.step (h:ClI s p A B n T)(hs:Sml s)(hp:zi p=true)(hn:n=p.next.length) {i l:Nat}(hi:i<n)(hl:hidL s A l) :
  ClI s p A B n (T.set (aGo p i l) (T.getD (aGo p i l) 0|||zbE s.edges (T.getD i 0) (l:Int))):=by
 have hj:aGo p i l<T.length:=by rw [h.len,hn];exact zdC hp (by omega) hl.1
 refine⟨by rw [List.length_set];exact h.len,fun x hx=>?_,fun q i' hb=>(zhy hj _ _ _).2 (.inl (h.base q i' hb)),fun i' q hb=>?_⟩
 ·rcases List.mem_or_eq_of_mem_set hx with hx|rfl
  ·exact h.lt x hx
  ·exact Nat.or_lt_two_pow (n:=16) (zeD h.lt _) (Nat.lt_of_lt_of_le (zid hs.2.2.1 _ _) (Nat.pow_le_pow_right (by omega) (by have:=hs.2.1;omega)))
 ·rcases (zhy hj _ _ _).1 hb with hb1|⟨rfl,hb1⟩
  ·exact h.sub _ _ hb1
  ·obtain⟨q0,h1,h2⟩:=(zie hs hl.2.1 _ _).1 hb1
   exact .hid (h.sub _ _ h1) hl h2
theorem closedAt_of (hs:Sml s) {i l:Nat}(hl:hidL s A l)(he:T.getD (aGo p i l) 0|||zbE s.edges (T.getD i 0) (l:Int)=T.getD (aGo p i l) 0):zdT s p T i l:=by
 intro q hq q' hq'
 unfold bitS
 rw [← he,Nat.testBit_or,(zie hs hl.2.1 _ _).2 ⟨q,hq,hq'⟩,Bool.or_true]
theorem ClI.fin (h:ClI s p A B n T)(hc:∀ i l,i<n→hidL s A l→zdT s p T i l):zez T n (Cl s p A B):=by
 refine⟨h.len,h.lt,fun i q=>⟨h.sub i q,fun hb=>?_⟩⟩
 induction hb with
 |base hb=>exact h.base _ _ hb
 |hid _ hl hq ih=>exact hc _ _ (by rw [← h.len];exact bitS_lt ih) hl _ ih _ hq
end
def room:List Nat→Nat
 |[]=>0
 |x :: r=>(65536 - x)+room r
theorem room_set:∀ (T:List Nat) (j x:Nat),(T.getD j 0|||x)<65536→room (T.set j (T.getD j 0|||x))≤room T∧(j<T.length→T.getD j 0|||x≠T.getD j 0→room (T.set j (T.getD j 0|||x))<room T)
 |[],j,x,_=>by simp [room]
 |a :: r,0,x,h=>by
  simp only [List.getD_cons_zero,List.set_cons_zero,room] at h ⊢
  have h1:a≤a|||x:=Nat.left_le_or
  refine⟨by omega,fun _ h2=>by omega⟩
 |a :: r,j+1,x,h=>by
  simp only [List.getD_cons_succ,List.set_cons_succ,room,List.length_cons] at h ⊢
  obtain⟨h1,h2⟩:=room_set r j x h
  refine⟨by omega,fun h3 h4=>by have:=h2 (by omega) h4;omega⟩
theorem sub_bit {a b:Nat}(ha:a<64)(hb:b<64) (l:Nat):l∈letters (a - (a&&&b)) 6↔l<6∧a.testBit l=true∧b.testBit l=false:=by
 rw [zF]
 refine and_congr_right fun hl=>?_
 have key:∀ a<64,∀ b<64,∀ l<6,((a - (a&&&b)).testBit l=true↔a.testBit l=true∧b.testBit l=false):=by decide +kernel
 exact key a ha b hb l hl
theorem stand_bad {s:Sys} {p:Aut} {A n:Nat} {v:List Nat} {T:List Nat}(h:zez T n (PR s p A v)):Bad s p A v↔∃ i,i<n∧T.getD i 0≠0∧zbr p i=false:=by
 constructor
 ·rintro ⟨q,i,h1,h2⟩
  have hb:=(h.2.2 i q).2 h1
  refine⟨i,by rw [← h.1];exact bitS_lt hb,fun e=>?_,h2⟩
  unfold bitS at hb
  rw [e] at hb
  simp at hb
 ·rintro ⟨i,hi,h1,h2⟩
  obtain⟨q,hq⟩:=Nat.exists_testBit_of_ne_zero h1
  exact⟨q,i,(h.2.2 i q).1 hq,h2⟩
theorem stand_start {n:Nat}(hn:1≤n):zez ((List.replicate n 0).set 0 1) n (fun q i=>q=0∧i=0):=by
 refine⟨by simp,fun x hx=>?_,fun i q=>?_⟩
 ·rcases List.mem_or_eq_of_mem_set hx with hx|rfl
  ·rw [List.mem_replicate] at hx;omega
  ·omega
 ·unfold bitS
  rw [List.getD_eq_getElem?_getD]
  by_cases h:i=0
  ·subst h
   rw [List.getElem?_set_self (by rw [List.length_replicate];omega),Option.getD_some]
   constructor
   ·intro h;exact⟨by cases q with|zero=>rfl|succ q=>simp [Nat.testBit_succ] at h,rfl⟩
   ·rintro ⟨rfl,-⟩;rfl
  ·rw [List.getElem?_set_ne (by omega)]
   constructor
   ·intro h
    cases h1:(List.replicate n 0)[i]? with
    |none=>rw [h1] at h;simp at h
    |some x =>
     have:=List.mem_of_getElem? h1
     rw [List.mem_replicate] at this
     rw [h1,this.2] at h
     simp at h
   ·rintro ⟨_,h1⟩;exact absurd h1 h
def memT (W:World) (g n:Nat):List Nat:=(List.range n).map fun j=>match W.cell? ⟨g,j,none⟩ with|some (.int _ z)=>z.toNat|_=>0
theorem memT_own {W:World} {base g n c:Nat} {T:List Nat}(h:W.ownsRow base 3 1 (.slice (some ⟨g,0,none⟩) n c) n (zaq T))(hT:T.length=n):memT W g n=T:=by
 refine List.ext_getElem? fun j=>?_
 unfold memT
 rw [List.getElem?_map]
 rcases Nat.lt_or_ge j n with hj|hj
 ·rw [List.getElem?_range hj,Option.map_some,h.cellAt j (by omega),show (zaq T)[j]?=T[j]?.map (fun x=>Value.int .i64 (x:Nat)) by simp [zaq]]
  rw [List.getElem?_eq_getElem (by omega)]
  simp
 ·rw [List.getElem?_eq_none (by simpa using hj),List.getElem?_eq_none (by omega)]
  rfl
theorem zcu {W:World} {base g n c j:Nat} {T:List Nat}(h:W.ownsRow base 3 1 (.slice (some ⟨g,0,none⟩) n c) n (zaq T))(hj:j<n):W.cell? ⟨g,j,none⟩=some (.int .i64 (T.getD j 0:Nat)):=by
 have hl:=zdK h
 have hT:T.length=n:=by simpa [zaq] using hl
 rw [h.cellAt j (by omega),show (zaq T)[j]?=T[j]?.map (fun x=>Value.int .i64 (x:Nat)) by simp [zaq],List.getD_eq_getElem?_getD,List.getElem?_eq_getElem (by omega)]
 simp
def RetSets (g N cc base:Nat) (Q:Nat→Nat→Prop) (w:World) (e:Ending) (w':World):Prop:=
 ∃ T':List Nat,e=.returned (.slice (some ⟨g,0,none⟩) N cc)∧w'.ownsRow base 3 1 (.slice (some ⟨g,0,none⟩) N cc) N (zaq T')∧zez T' N Q∧Frm (fun k=>k=g) w w'
section
variable {w:World} {lo hi n c m d m' d' L:Nat} {A B B':Option Addr} {s:Sys} {p:Aut}
theorem zfG {base g N cc:Nat} {T:List Nat} {Bs:Nat→Nat→Prop}(hS:zN w lo hi A n s)(hP:zG w lo hi B m B' m' p)(hv:zl s=true)(hp:zi p=true)(hL:L<64)(hN:N=p.next.length)
  (hg:hi≤base) (zil:w.ownsRow base 3 1 (.slice (some ⟨g,0,none⟩) N cc) N (zaq T)) (hT:zez T N Bs) :
  Calls Tryz.prog 228 #[.agg #[.int .i64 s.al,.int .i64 s.st,.slice A n c,.int .i64 p.al,.slice B m d,.slice B' m' d',.int .i64 L],.slice (some ⟨g,0,none⟩) N cc] w (RetSets g N cc base (Cl s p L Bs) w):=by
 have hsm:=zcX hv
 obtain⟨ha0,ha1⟩:=zP hv
 obtain⟨al,hal⟩:∃ al:Nat,Hid (s.al=al):=⟨s.al.toNat,by unfold Hid;omega⟩
 have hal64:al<64:=by have:=hal.out;omega
 have hN12:N≤12:=by have:=(zj hp).2.1;omega
 have hg0:=(zil.lt g rfl).1
 have hgw:=(zil.lt g rfl).2
 have HN:=za hN
 have Han:=za (zcl (a:=al) (b:=L) (by unfold Sm;omega) (by unfold Sm;omega))
 have hle:al&&&L≤al:=Nat.and_le_left
 have hsub:(al:Int) - ((al&&&L:Nat):Int)=((al - (al&&&L):Nat):Int):=by omega
 have Hsub:=za hsub
 clear hsub
 have Hbit:=za (fun l=>sub_bit hal64 hL l)
 have hw1:Ext w (w.alloc (.cells #[.int .i64 s.al,.int .i64 s.st,.slice A n c,.int .i64 p.al,.slice B m d,.slice B' m' d',.int .i64 L] 97)):=(Ext.refl _).alloc _
 have b1:=Blk.new w 97 #[.int .i64 s.al,.int .i64 s.st,.slice A n c,.int .i64 p.al,.slice B m d,.slice B' m' d',.int .i64 L]
 have han:=Han.out
 have k1:=b1.cell
 clear hN
 go_enter Tryz.func228,Tryz.ntmps228
 go_upto_region 1 with fail
 generalize w.alloc (.cells #[.int .i64 s.al,.int .i64 s.st,.slice A n c,.int .i64 p.al,.slice B m d,.slice B' m' d',.int .i64 L] 97)=w1 at *
 rw [hal.out] at k1
 go_wp2_with fail
 rw [Hsub.out]
 refine (zV (al - (al&&&L)) (by unfold Sm;omega) _).mono ?_
 rintro e w2 ⟨HA,hc,rfl,hownH,hx2⟩
 have Hbit:=za (fun l=>(sub_bit hal64 hL l).trans (show l<6∧al.testBit l=true∧L.testBit l=false↔hidL s L l by unfold hidL;rw [hal.out];rfl))
 generalize letters (al - (al&&&L)) 6=hs at *
 have hhl:hs.length≤9223372036854775807:=(Reads.of_own hownH).len
 have hfr2:Frm (fun k=>k=g) w w2:=(hw1.trans hx2).toFrm
 have ziw:=zh zil (hw1.trans hx2)
 have hb2:=b1.ext hx2
 have hcl:=hT.clI (s:=s) (p:=p) (A:=L)
 clear zil hT k1 b1
 go_wp2_with fail
 go_loopw [6] (fun mv wr=>∃ (mb:Bool) (T:List Nat),mv=.bool mb∧Hid (ClI s p L Bs N T)∧Hid (mb=false→∀ i l,i<N→hidL s L l→zdT s p T i l)∧wr.ownsRow base 3 1 (.slice (some ⟨g,0,none⟩) N cc) N (zaq T)∧Frm (fun k=>k=g) w2 wr) (fun mv wr=>room (memT wr g N)+(match mv with | .bool true=>1|_=>0))
 case atStart=>exact⟨true,T,rfl,za hcl,za (fun h=>by cases h),ziw,Frm.refl _ _⟩
 case round =>
  clear hcl ziw
  obtain⟨mb,T,rfl,hcl,hdone,zil,hfr⟩:=hrel
  have hmem:=za (memT_own zil hcl.out.len)
  cases mb
  ·have zio:=za (hcl.out.fin (hdone.out rfl))
   go_wp2_with fail
   go_ret
   exact⟨T,rfl,zil,zio.out,hfr2.trans hfr⟩
  ·go_wp2_with fail
   go_loopw [6,7] (fun mv iv wq=>∃ (mb:Bool) (i:Nat) (T1:List Nat),mv=.bool mb∧iv=.int .i64 i∧i≤N∧Hid (ClI s p L Bs N T1)∧Hid (room T1≤room T∧(mb=true→room T1<room T))∧Hid (mb=false→∀ i' l,i'<i→hidL s L l→zdT s p T1 i' l)∧wq.ownsRow base 3 1 (.slice (some ⟨g,0,none⟩) N cc) N (zaq T1)∧Frm (fun k=>k=g) w2 wq) (fun _ iv _=>N - (intOf iv).toNat)
   case atStart=>exact⟨false,0,T,rfl,rfl,Nat.zero_le _,hcl,za ⟨Nat.le_refl _,fun h=>by cases h⟩,za (fun _ i' l h=>by omega),zil,hfr⟩
   case round =>
    clear hcl zil hfr hdone
    obtain⟨mb,i,T1,rfl,rfl,hi,hcl,hroom,hdone,zil,hfr⟩:=hrel
    by_cases hlt:i<N
    ·have hlt':(i:Int)<(N:Int):=by omega
     go_wp2_with fail
     go_loopw [6,8] (fun mv kv wq=>∃ (mb:Bool) (k:Nat) (T1:List Nat),mv=.bool mb∧kv=.int .i64 k∧k≤hs.length∧Hid (ClI s p L Bs N T1)∧Hid (room T1≤room T∧(mb=true→room T1<room T))∧Hid (mb=false→(∀ i' l,i'<i→hidL s L l→zdT s p T1 i' l)∧∀ (k' l:Nat),k'<k→hs[k']?=some l→zdT s p T1 i l)∧wq.ownsRow base 3 1 (.slice (some ⟨g,0,none⟩) N cc) N (zaq T1)∧Frm (fun k=>k=g) w2 wq) (fun _ kv _=>hs.length - (intOf kv).toNat)
     case atStart=>exact⟨mb,0,T1,rfl,rfl,Nat.zero_le _,hcl,hroom,za (fun h=>⟨hdone.out h,fun k' l h=>by omega⟩),zil,hfr⟩
     case round =>
      clear hcl hroom hdone zil hfr
      obtain⟨mb,k,T1,rfl,rfl,hk,hcl,hroom,hdone,zil,hfr⟩:=hrel
      by_cases hkl:k<hs.length
      ·have hkl':(k:Int)<(hs.length:Int):=by omega
       obtain⟨l,hl⟩:∃ l,hs[k]?=some l:=⟨_,List.getElem?_eq_getElem hkl⟩
       have hhid:=(Hbit.out l).1 (List.mem_of_getElem? hl)
       have hl6:=hhid.1
       have hjN:aGo p i l<N:=by rw [HN.out];exact zdC hp (by rw [← HN.out];exact hlt) hl6
       obtain⟨gh,rfl,hgh,-⟩:=zae hownH (by omega)
       have hownH2:=zbo hownH hfr (fun b h1 e=>by have:=hw1.size;omega)
       have cH:=zcu hownH2 hkl
       rw [List.getD_eq_getElem?_getD,hl,Option.getD_some] at cH
       have CH:∀ W,Ext wr W→W.cell? ⟨gh,k,none⟩=some (.int .i64 (l:Nat)):=fun W hW=>hW.cell_some cH
       have CB:∀ W,Ext wr W→∀ q,W.cell? ⟨w.heap.size,q,none⟩=#[Value.int .i64 s.al,.int .i64 s.st,.slice A n c,.int .i64 p.al,.slice B m d,.slice B' m' d',.int .i64 L][q]?:=fun W hW=>((hb2.frm hfr (by omega)).ext hW).cell
       have CI:∀ W,Ext wr W→W.cell? ⟨g,i,none⟩=some (.int .i64 (T1.getD i 0:Nat)):=fun W hW=>hW.cell_some (zcu zil hlt)
       have HPq:=za (fun W (hW:Ext wr W)=>((hP.ext (hw1.trans hx2)).frm hfr (fun k h1 h2 e=>by omega)).ext hW)
       have HSq:=za (fun W (hW:Ext wr W)=>((hS.ext (hw1.trans hx2)).frm hfr (fun k h1 h2 e=>by omega)).ext hW)
       have Hl:=za hl
       have hww:=Ext.refl wr
       clear hl cH hownH2
       go_wp2_with fail
       go_region_held3 (fun W=>Ext wr W) (first|assumption|(refine Ext.drew ?_;assumption)|(refine Ext.trans ?_ (by assumption);assumption)|(refine Ext.trans ?_ (by assumption);refine Ext.drew ?_;assumption)) (first|(go_at_call 230;refine (zda (HPq.out _ ?_) hp (by rw [← HN.out];exact hlt) hl6).mono ?_;(first|assumption|(refine Ext.drew ?_;assumption));rintro e w3 ⟨rfl,hx3⟩))
       have hwq3:Ext wr w3:=by assumption
       obtain⟨j,hj⟩:∃ j,Hid (aGo p i l=j):=⟨_,rfl⟩
       rw [hj.out] at hjN ⊢
       have CJ:∀ W,Ext wr W→W.cell? ⟨g,j,none⟩=some (.int .i64 (T1.getD j 0:Nat)):=fun W hW=>hW.cell_some (zcu zil hjN)
       obtain⟨x,hx⟩:∃ x,Hid (T1.getD i 0=x):=⟨_,rfl⟩
       obtain⟨y,hy⟩:∃ y,Hid (T1.getD j 0=y):=⟨_,rfl⟩
       have hx16:x<65536:=by rw [← hx.out];exact zeD hcl.out.lt i
       have hy16:y<65536:=by rw [← hy.out];exact zeD hcl.out.lt j
       rw [hx.out] at CI
       rw [hy.out] at CJ
       have hst16:zbE s.edges x (l:Int)<65536:=zhs hsm _ _
       obtain⟨z,hz⟩:∃ z,Hid (zbE s.edges x (l:Int)=z):=⟨_,rfl⟩
       rw [hz.out] at hst16
       have hor:=zbG (a:=y) (b:=z) (by unfold Sm;omega) (by unfold Sm;omega)
       have hjN':(j:Int)<(N:Int):=by omega
       obtain⟨u,hu⟩:∃ u,Hid (y|||z=u):=⟨_,rfl⟩
       have hu16:u<65536:=by rw [← hu.out];exact Nat.or_lt_two_pow (n:=16) hy16 hst16
       rw [hu.out] at hor
       go_wp2_with fail
       go_region_held3 (fun W=>Ext wr W) (first|assumption|(refine Ext.drew ?_;assumption)|(refine Ext.trans ?_ (by assumption);assumption)|(refine Ext.trans ?_ (by assumption);refine Ext.drew ?_;assumption)) (first|(go_at_call 229;refine (zeP (c:=c) (k0:=s.st.toNat) (HSq.out _ ?_) hsm.2.2.1 (by have:=hsm.2.1;omega) (by unfold Sm;omega)).mono ?_;(first|assumption|(refine Ext.drew ?_;assumption));rw [hz.out];rintro e w4 ⟨rfl,hx4⟩))
       have hwq4:Ext wr w4:=by assumption
       have cJ:=CJ w4 hwq4
       have hfr4:=hfr.ext hwq4
       have hown4:=zh zil hwq4
       have heqT:T1.getD (aGo p i l) 0|||zbE s.edges (T1.getD i 0) (l:Int)=u:=by rw [hj.out,hx.out,hy.out,hz.out,hu.out]
       have HeqT:=za heqT
       have hstep:=hcl.out.step hsm hp HN.out hlt hhid
       rw [heqT,hj.out] at hstep
       have Hstep:=za hstep
       clear heqT hstep CH CB CI CJ
       by_cases he:u=y
       ·have Hcl:=za (closedAt_of (T:=T1) (p:=p) (i:=i) hsm hhid (by rw [HeqT.out,hj.out,hy.out,he]))
        have hne:((u:Int) != (y:Int))=false:=by rw [he];simp
        clear he
        go_wp2_with fail
        go_roundw
        case rel=>exact⟨mb,k+1,T1,rfl,by go_num,by omega,hcl,hroom,za (fun h=>⟨(hdone.out h).1,fun k' l' hk' hl'=>by
         rcases Nat.lt_or_eq_of_le (Nat.le_of_lt_succ hk') with h1|rfl
         ·exact (hdone.out h).2 k' l' h1 hl'
         ·rw [Hl.out] at hl'
          obtain rfl:=Option.some.inj hl'
          exact Hcl.out⟩),hown4,hfr4⟩
        case measure=>simp [intOf];omega
       ·have hne:((u:Int) != (y:Int))=true:=by simp;omega
        have hrs:=room_set T1 j z (by rw [hy.out,hu.out];exact hu16)
        rw [hy.out,hu.out] at hrs
        have hrs2:=hrs.2 (by rw [hcl.out.len];exact hjN) he
        have Hrs:=za hrs2
        have hst:=(hown4.stored j (.int .i64 (u:Nat))).1
        rw [← zgb] at hst
        have hfz:=hown4.frozenAt j
        clear hrs hrs2 he
        go_wp2_with fail
        go_roundw
        case rel=>exact⟨true,k+1,T1.set j u,rfl,by go_num,by omega,za Hstep.out,za ⟨by have:=Hrs.out;have:=hroom.out.1;omega,fun _=>by have:=Hrs.out;have:=hroom.out.1;omega⟩,za (fun h=>by cases h),hst,hfr4.trans (Frm.setCell _ g j _)⟩
        case measure=>simp [intOf];omega
      ·go_wp2_with fail
       go_roundw
       case rel=>exact⟨mb,i+1,T1,rfl,by go_num,by omega,hcl,hroom,za (fun h i' l hi' hl=>by
        rcases Nat.lt_or_eq_of_le (Nat.le_of_lt_succ hi') with h1|rfl
        ·exact (hdone.out h).1 i' l h1 hl
        ·obtain⟨k',hk'⟩:=List.getElem?_of_mem ((Hbit.out l).2 hl)
         exact (hdone.out h).2 k' l (by have:=(List.getElem?_eq_some_iff.1 hk').1;omega) hk'),zil,hfr⟩
       case measure=>simp [intOf];omega
    ·go_wp2_with fail
     have hmem1:=za (memT_own zil hcl.out.len)
     go_roundw
     case rel=>exact⟨mb,T1,rfl,hcl,za (fun h i l hi hl=>hdone.out h i l (by omega) hl),zil,hfr⟩
     case measure =>
      rw [hmem.out,hmem1.out]
      have h1:=hroom.out
      cases mb
      ·simp;omega
      ·have:=h1.2 rfl
       simp;omega
end
theorem Frm.grownG {T:Nat→Prop} {w W W':World} {row:Option Nat}(h:Frm T w W)(hg:W.grownBy W' row)(hr:∀ k,row=some k→w.heap.size≤k):Frm T w W':=
 ⟨hg.os.trans h.os,hg.tape.trans h.tape,hg.output.trans h.output,Nat.le_trans h.size hg.size,fun k hk hn=>(hg.block k (Nat.lt_of_lt_of_le hk h.size) (fun e=>by have:=hr k e.symm;omega)).trans (h.block k hk hn)⟩
structure Gr2 (w0 W:World) (G:Nat) (al st:Int) (v:Value) (es:List Edg):Prop where
 blk:Blk W G 38 #[.int .i64 al,.int .i64 st,v]
 own:W.ownsRow w0.heap.size 153 3 v es.length (zu es)
 fr:Frm (fun k=>k=G) w0 W
 hG:G<w0.heap.size
theorem Gr2.ext_ {w0 W W':World} {G:Nat} {al st:Int} {v:Value} {es:List Edg}(h:Gr2 w0 W G al st v es)(hb:Ext W W'):Gr2 w0 W' G al st v es:=⟨h.blk.ext hb,zh h.own hb,h.fr.ext hb,h.hG⟩
theorem Gr2.push {w0 W W':World} {G:Nat} {al st:Int} {v:Value} {es:List Edg} {g cap:Nat} {e:Edg}(h:Gr2 w0 W G al st v es) (zil:W'.ownsRow w0.heap.size 153 3 (.slice (some ⟨g,0,none⟩) (es.length+1) cap) (es.length+1) (zu es++[.int .i64 e.fr,.int .i64 e.le,.int .i64 e.ta]))
  (hg:W.grownBy W' v.ownBlock) :
  Hid (W'.cell? ⟨G,2,none⟩=some v)∧W'.frozen? ⟨G,2,none⟩=false∧Gr2 w0 (W'.setCell ⟨G,2,none⟩ (.slice (some ⟨g,0,none⟩) (es.length+1) cap)) G al st (.slice (some ⟨g,0,none⟩) (es.length+1) cap) (es++[e]):=by
 have hB:Blk W' G 38 #[.int .i64 al,.int .i64 st,v]:=(hg.block G h.blk.lt (fun e=>by have:=(h.own.lt G e.symm).1;have:=h.hG;omega)).trans h.blk
 have hgG:=(zil.lt g rfl).1
 have hG:=h.hG
 have hf:Frm (fun k=>k=G) w0 W':=h.fr.grownG hg (fun k hk=>(h.own.lt k hk).1)
 refine⟨hB.cell 2,hB.frozen 2,⟨by simpa using hB.set_ 2 _,?_,hf.cell rfl _,hG⟩⟩
 have:=zf zil (Frm.setCell W' G 2 (.slice (some ⟨g,0,none⟩) (es.length+1) cap)) (fun b hv hS=>by
  have:g=b:=by simpa [Value.ownBlock] using hv
  omega)
 rw [zcg]
 simpa [zu] using this
theorem spec_l2Rank {p k:Nat} {w:World}(hp:p≤16)(hk:k≤p) :
  Calls Tryz.prog 290 #[.int .i64 (2 ^ p - 1:Nat),.int .i64 k] w fun e w'=>e=.returned (.int .i64 (k:Nat))∧w=w':=by
 have hF:2 ^ p - 1<65536:=by have:=Nat.pow_le_pow_right (show 1≤2 by omega) hp;have:(2:Nat) ^ 16=65536:=rfl;omega
 have HB:=za (fun i (hi:i<p)=>show (2 ^ p - 1).testBit i=true by rw [Nat.testBit_two_pow_sub_one];simpa using hi)
 generalize 2 ^ p - 1=F at *
 go_enter Tryz.func290,Tryz.ntmps290
 go_wp2_with fail
 go_loop [5,6] (fun v iv=>∃ i:Nat,iv=.int .i64 i∧i≤k∧v=.int .i64 i) (fun _ iv=>k - (intOf iv).toNat)
 case atStart=>exact⟨0,rfl,Nat.zero_le _,rfl⟩
 case round =>
  obtain⟨i,rfl,hi,rfl⟩:=hrel
  by_cases hlt:i<k
  ·have hlt':(i:Int)<(k:Int):=by omega
   have Hb:=za (HB.out i (by omega))
   go_wp2_with (go_at_call 144;refine (zat F i (by unfold Sm;omega) _ (by omega)).mono ?_;rw [Hb.out];rintro e w' ⟨rfl,rfl⟩)
   go_round
   case rel=>exact⟨i+1,by go_num,by omega,by go_num⟩
   case measure=>simp [intOf];omega
  ·obtain rfl:i=k:=by omega
   go_wp2_with fail
   go_ret
   exact⟨rfl,rfl⟩
section
variable {w W:World} {lo hi n c m d m' d':Nat} {A B B':Option Addr} {s:Sys} {p:Aut}
theorem yK10a9 {P:Prop}(h:P:=by
 (refine zb rfl rfl rfl rfl (fun K hK=>?_))
 go_simp
 refine hK.out _ _ ?_
 refine ze ?_
 go_wp2_with fail
 go_meet
 obtain⟨w1,h1,h2⟩:=Hfin.out
 exact⟨w1,rfl,h1,h2⟩
 ):P:=h
theorem spec_l2Keep {P:Nat}(h:zN w lo hi A n s)(hv:zl s=true)(hP:s.st=(P:Int))(hn:n≤1000000)(hhi:hi≤w.heap.size) :
  Calls Tryz.prog 269 #[.agg #[.int .i64 s.al,.int .i64 s.st,.slice A n c],.int .i64 (2 ^ P - 1:Nat)] w (RetSys w s):=by
 have hsm:=zcX hv
 obtain⟨hs1,hs2,hf,-⟩:=hsm
 have hP16:P≤16:=by omega
 have hPn:s.st.toNat=P:=by omega
 rw [hPn] at hf
 have Hf:=za hf
 have HS:=za (fun W (hW:Ext w W)=>h.ext hW)
 have hl:=za h.1
 have HPe:=za hP
 have hF:2 ^ P - 1<65536:=by have:=Nat.pow_le_pow_right (show 1≤2 by omega) hP16;have:(2:Nat) ^ 16=65536:=rfl;omega
 have HRk:=za (fun k W (hk:k≤P)=>spec_l2Rank (w:=W) hP16 hk)
 have HB:=za (fun i (hi:i<P)=>show (2 ^ P - 1).testBit i=true by rw [Nat.testBit_two_pow_sub_one];simpa using hi)
 rw [hP]
 generalize 2 ^ P - 1=F at *
 have hx0:Ext w ((w.alloc (.cells #[.int .i64 s.al,.int .i64 (P:Nat),.slice A n c] 38)).alloc (.cells #[.int .i64 0,.int .i64 0,.slice none 0 0] 38)):=((Ext.refl _).alloc _).alloc _
 obtain⟨b1,b2⟩:=zU (Ext.refl ((w.alloc (.cells #[.int .i64 s.al,.int .i64 (P:Nat),.slice A n c] 38)).alloc (.cells #[.int .i64 0,.int .i64 0,.slice none 0 0] 38)))
 clear h hv hP hs1 hs2 hf hPn
 go_enter Tryz.func269,Tryz.ntmps269
 go_upto_region 1 with fail
 generalize (w.alloc (.cells #[.int .i64 s.al,.int .i64 (P:Nat),.slice A n c] 38)).alloc (.cells #[.int .i64 0,.int .i64 0,.slice none 0 0] 38)=w0 at *
 have CB:=b1.cells
 have hww:=Ext.refl w0
 have hb2:=b2.lt
 have hRP:=za (fun W=>HRk.out P W (Nat.le_refl _))
 have hww1:=hww.drew
 have hxb:=(Ext.refl w0.drew).alloc (.cells #[.int .i64 0,.int .i64 0,.slice none 0 0] 38)
 have bG:=Blk.new w0.drew 38 #[.int .i64 0,.int .i64 0,.slice none 0 0]
 go_cut [5] (fun v wx=>∃ w1,v=.pointer (some ⟨w0.heap.size,0,none⟩)∧Ext w0 w1∧Gr2 w1 wx w0.heap.size s.al (P:Nat) (.slice none 0 0) [])
 case first =>
  have zio:∃ w1,Ext w0 w1∧Gr2 w1 (w0.alloc (.cells #[.int .i64 s.al,.int .i64 (P:Nat),.slice none 0 0] 38)).drew w0.heap.size s.al (P:Nat) (.slice none 0 0) []:=
   ⟨(w0.alloc (.cells #[.int .i64 s.al,.int .i64 (P:Nat),.slice none 0 0] 38)).drew,((Ext.refl _).alloc _).drew,Blk.new w0 _ _,World.ownsRow_nil _ _ _ _,Frm.refl _ _,by simp⟩
  have Hfin:=za zio
  have cG:=bG.cell
  have fG:=bG.frozen
  rw [show w0.drew.heap.size=w0.heap.size from rfl] at cG fG
  clear zio
  refine uR (fun X=>Ext w0 X) [8] (zw.app [0,1,2,3,4] (zw.two 5 (zw.of [6,7,8]) 7 (zw.of [5,6,8]))) ?_
  refine uQ ?_
  refine zm rfl rfl rfl rfl (fun K hK=>?_) (fun K hK=>?_)
  ·go_simp
   refine (hRP.out _).mono ?_
   rintro e w' ⟨rfl,rfl⟩
   refine hK.out _ _ hww1 ?_
   refine pT ?_
   refine uQ ?_
   (refine zd rfl rfl rfl (fun K hK=>?_);go_simp)
   refine hK.out _ _ (hww1.alloc _) ?_
   refine pT ?_
   exact yK10a9
  ·go_simp
   refine hK.out _ _ (hww1.alloc _) ?_
   refine pT ?_
   (refine zd rfl rfl rfl (fun K hK=>?_);go_simp)
   refine (hRP.out _).mono ?_
   rintro e w' ⟨rfl,rfl⟩
   refine hK.out _ _ (hww1.alloc _) ?_
   refine pT ?_
   refine uQ ?_
   exact yK10a9
 case rest =>
  obtain⟨w1,rfl,hx01,hgr⟩:=hcut
  have HSw:=za (fun W (hW:Ext w1 W)=>HS.out W (hx0.trans (hx01.trans hW)))
  have CB1:∀ W,Frm (fun k=>k=w0.heap.size) w1 W→∀ q,W.cell? ⟨w.heap.size,q,none⟩=#[Value.int .i64 s.al,.int .i64 (P:Nat),.slice A n c][q]?:=fun W hW=>((b1.ext hx01).frm hW (by omega)).cell
  have hs01:=hx01.size
  clear hxb bG hww1 CB hww
  go_wp2_with fail
  go_loopw [6] (fun iv wr=>∃ (k:Nat) (v:Value),iv=.int .i64 k∧k≤n∧Gr2 w1 wr w0.heap.size s.al (P:Nat) v (s.edges.take k)) (fun iv _=>n - (intOf iv).toNat)
  case atStart=>exact⟨0,_,rfl,Nat.zero_le _,hgr⟩
  case round =>
   clear hgr
   obtain⟨k,v,rfl,hk,hgr⟩:=hrel
   have k1:=CB1 wr hgr.fr
   by_cases hlt:k<n
   ·have hlt':(k:Int)<(n:Int):=by omega
    have hSr:=(HSw.out w1 (Ext.refl _)).frm hgr.fr (fun k h1 h2 e=>by have:=hx0.size;omega)
    obtain⟨g,o,x,rfl,hglo,hghi,hx,c0,c1,c2⟩:=hSr.2.edge hlt
    obtain⟨⟨f0,f1⟩,⟨l0,l1⟩,t0,t1⟩:=Hf.out x (List.mem_of_getElem? hx.out)
    obtain⟨fr,hfr⟩:∃ fr:Nat,Hid (x.fr=fr):=⟨x.fr.toNat,by unfold Hid;omega⟩
    obtain⟨to_,hto⟩:∃ to_:Nat,Hid (x.ta=to_):=⟨x.ta.toNat,by unfold Hid;omega⟩
    have hfrP:fr<P:=by have:=hfr.out;omega
    have htoP:to_<P:=by have:=hto.out;omega
    rw [hfr.out] at c0
    rw [hto.out] at c2
    have hR1:=za (fun W=>HRk.out fr W (by omega))
    have hR2:=za (fun W=>HRk.out to_ W (by omega))
    have hB1:=za (HB.out fr hfrP)
    have hB2:=za (HB.out to_ htoP)
    have hxe:=(Ext.refl wr).alloc (.cells #[.int .i64 fr,.int .i64 x.le,.int .i64 to_] 153)
    have be:=Blk.new wr 153 #[.int .i64 fr,.int .i64 x.le,.int .i64 to_]
    have hgr2:=hgr.ext_ hxe
    have hk1:=za hgr.fr.size
    have hst:=za (show zu (s.edges.take (k+1))=zu (s.edges.take k)++[.int .i64 fr,.int .i64 x.le,.int .i64 to_] by
     rw [List.take_add_one,hx.out,Option.toList_some,zcg,← hfr.out,← hto.out];rfl)
    have hlt2:=za (show (s.edges.take k).length=k by rw [List.length_take];have:=hl.out;omega)
    clear f0 f1 t0 t1 hgr
    go_upto_region 6 with fail
    generalize hge:wr.heap.size=ge at *
    have HGe:=za hge
    clear hge
    generalize wr.alloc (.cells #[.int .i64 fr,.int .i64 x.le,.int .i64 to_] 153)=w2 at *
    have ce:=be.cell
    go_wp2_with (first
     |(go_at_call 144;with_reducible refine (zat F fr (by unfold Sm;omega) _ (by omega)).mono ?_;rw [hB1.out];rintro e w' ⟨rfl,rfl⟩)
     |(go_at_call 144;with_reducible refine (zat F to_ (by unfold Sm;omega) _ (by omega)).mono ?_;rw [hB2.out];rintro e w' ⟨rfl,rfl⟩))
    have CE:=be.cells
    have CG:∀ W,Ext w2 W→∀ q,W.cell? ⟨w0.heap.size,q,none⟩=#[Value.int .i64 s.al,.int .i64 (P:Nat),v][q]?:=fun W hW=>(hgr2.blk.ext hW).cell
    have hww:=Ext.refl w2
    clear ce
    refine uR (fun X=>Ext w2 X) [14,16] (zw.of [0,1,2,3,4,6,7,8,9,10,5,11,12,13,14,15,16]) ?_
    refine uQ ?_
    have hxd:=hww.drew
    (refine zd rfl rfl rfl (fun K hK=>?_);go_simp)
    refine (hR1.out _).mono ?_
    rintro e w' ⟨rfl,rfl⟩
    refine hK.out _ _ hxd ?_
    refine pT ?_
    refine uQ ?_
    (refine zd rfl rfl rfl (fun K hK=>?_);go_simp)
    refine (hR2.out _).mono ?_
    rintro e w' ⟨rfl,rfl⟩
    refine hK.out _ _ hxd ?_
    refine pT ?_
    refine uQ ?_
    (refine zd rfl rfl rfl (fun K hK=>?_);go_simp)
    refine hK.out _ _ (hxd.alloc _) ?_
    refine pT ?_
    (refine zb rfl rfl rfl rfl (fun K hK=>?_))
    have hgr3:=hgr2.ext_ hxd
    have zix:=hgr3.own
    rw [hlt2.out] at zix
    refine zaG w1 w2.drew _ _ _ rfl 153 _ 3 24 Tryz.underlying36 zbg rfl (by decide) v k (zu (s.edges.take k)) _ _ rfl rfl hgr3.fr.size zix rfl (by simp [Value.oneCell']) (by unfold maxLen;omega) (by omega) ?_
    intro g8 cap8 w8 hown8 hg8 hat8 hlt8
    refine hK.out _ _ ?_
    refine pT ?_
    refine uQ ?_
    obtain⟨p1,p2,p3⟩:=hgr3.push (e:=⟨fr,x.le,to_⟩) (W':=w8) (by rw [hlt2.out];exact hown8) hg8
    have p1':=p1.out
    have heq:=za (show s.edges.take k++[⟨fr,x.le,to_⟩]=s.edges.take (k+1) by
     rw [List.take_add_one,hx.out,Option.toList_some,← hfr.out,← hto.out])
    rw [heq.out,hlt2.out] at p3
    (refine zb rfl rfl rfl rfl (fun K hK=>?_))
    go_simp
    refine hK.out _ _ ?_
    refine ze ?_
    clear hown8 hg8 hat8 zix p1 hgr3
    generalize w8.setCell ⟨w0.heap.size,2,none⟩ (.slice (some ⟨g8,0,none⟩) (k+1) cap8)=w10 at *
    go_wp2_with fail
    go_roundw
    case rel=>exact⟨k+1,_,by go_num,by omega,p3⟩
    case measure=>simp [intOf];omega
   ·obtain rfl:k=n:=by omega
    rw [List.take_of_length_le (by have:=hl.out;omega)] at hgr
    have zil:=hgr.own
    rw [← hl.out] at zil
    obtain⟨A1,c1,rfl⟩:=zg zil
    have bz:=(b2.ext hx01).frm hgr.fr (by omega)
    have kz:=bz.cell
    have fz:=bz.frozen
    have kG:=hgr.blk.cell
    have hf:=zad wr (w.heap.size+1) (.int .i64 s.al) (.int .i64 (P:Nat)) (.slice A1 k c1)
    have cf:=(zau bz rfl (.int .i64 s.al) (.int .i64 (P:Nat)) (.slice A1 k c1)).cell
    have hxw:Ext w wr:=(hx0.trans hx01).frm hgr.fr (fun k hk e=>by have:=hx0.size;omega)
    have hret:=za (show RetSys w s (.returned (.agg #[.int .i64 s.al,.int .i64 (P:Nat),.slice A1 k c1])) (((wr.setCell ⟨w.heap.size+1,0,none⟩ (.int .i64 s.al)).setCell ⟨w.heap.size+1,1,none⟩ (.int .i64 (P:Nat))).setCell ⟨w.heap.size+1,2,none⟩ (.slice A1 k c1)) from
     ⟨A1,k,c1,by rw [HPe.out],⟨hl.out,zn (zf zil hf (fun b hv e=>zq zil bz (by decide) hv e)) (hx0.trans hx01).size⟩,hxw.frm hf (fun k hk e=>by omega)⟩)
    clear hf zil
    go_wp2_with fail
    exact bodyPost_ret (v:=.agg #[.int .i64 s.al,.int .i64 (P:Nat),.slice A1 k c1]) (by simp [results,Tryz.results269,go_sem,cf]) rfl hret.out
end
end Go.Proofs.YtmjaepibdpfblaaGreatDoor
