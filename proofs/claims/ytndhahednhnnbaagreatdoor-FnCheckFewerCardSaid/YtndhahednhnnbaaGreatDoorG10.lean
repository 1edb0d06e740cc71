/- The program's ViolationUnder, KeepsUnder, PartsViolation, PartsKeep, KeepsProperty, walked. | The letters of a chain: the rest. | ChainLetters of both. | ChainFault of both, walked. | InterfaceOf of both, walked; printed by gen_cc.py. | AssumptionFault of both, walked; printed by gen_cc.py. | Contracts: validity of certificates. | Words run through automata; BreaksProperty of both, walked. | BreaksProperty of the program, walked. | l13Trace, CheckCertificate of both, walked; printed by gen_chk.py. | Plain: what breaks a property under an assumption, told by the runs of the parts. | The safe -/
import Derived.Test.YtndhahednhnnbaaGreatDoorG09
import Derived.Test.YtndhahednhnnbaaGreatDoorG02
import Derived.Test.YtndhahednhnnbaaGreatDoorG06
import Derived.Test.YtndhahednhnnbaaGreatDoorG08
import Derived.Test.YtndhahednhnnbaaGreatDoorG07
import Derived.Test.YtndhahednhnnbaaGreatDoorG05
import Derived.Test.YtndhahednhnnbaaGreatDoorG01
namespace Go.Proofs.YtndhahednhnnbaaGreatDoor
open Go Go.RowKit
set_option maxHeartbeats 4000000
section
variable {lo hi n c:Nat} {A:Option Addr} {s:Sys} {lo1 hi1 m1 d1 m1' d1':Nat} {B B':Option Addr} {a:Aut} {lo2 hi2 m2 d2 m2' d2':Nat} {C C':Option Addr} {p:Aut} {w:World}
set_option maxRecDepth 100000 in
theorem zej (h:zO w lo hi A n s)(ha:zI w lo1 hi1 B m1 B' m1' a)(hp:zI w lo2 hi2 C m2 C' m2' p)(hT:Tab w) :
  Calls Tryz.prog 51 #[.agg #[.int .i64 s.al,.int .i64 s.st,.slice A n c],.agg #[.int .i64 a.al,.slice B m1 d1,.slice B' m1' d1'],.agg #[.int .i64 p.al,.slice C m2 d2,.slice C' m2' d2']] w fun e w'=>e=.returned (.tuple #[.string (zbM s a p),.bool (zbL s a p)])∧Ext w w':=by
 have HT:=hide (fun W (hW:Ext w W)=>hT.ext hW)
 have HSy:=hide (fun W (hW:Ext w W)=>h.ext hW)
 have HAa:=hide (fun W (hW:Ext w W)=>ha.ext hW)
 have HPa:=hide (fun W (hW:Ext w W)=>hp.ext hW)
 have HS:=hide (fun W (hW:Ext w W)=>zam (c:=c) (h.ext hW))
 have HA:=hide (fun W (hW:Ext w W)=>zC _ _ _ _ d1 _ _ d1' _ _ (ha.ext hW))
 have HP:=hide (fun W (hW:Ext w W)=>zC _ _ _ _ d2 _ _ d2' _ _ (hp.ext hW))
 clear h ha hp hT
 have hw1:Ext w (((w.alloc (.cells #[.int .i64 s.al,.int .i64 s.st,.slice A n c] 39)).alloc (.cells #[.int .i64 a.al,.slice B m1 d1,.slice B' m1' d1'] 27)).alloc (.cells #[.int .i64 p.al,.slice C m2 d2,.slice C' m2' d2'] 27)):=(((Ext.refl w).alloc _).alloc _).alloc _
 obtain⟨b1,b2,b3⟩:=zQ (Ext.refl (((w.alloc (.cells #[.int .i64 s.al,.int .i64 s.st,.slice A n c] 39)).alloc (.cells #[.int .i64 a.al,.slice B m1 d1,.slice B' m1' d1'] 27)).alloc (.cells #[.int .i64 p.al,.slice C m2 d2,.slice C' m2' d2'] 27)))
 by_cases hT:zcp s a p=true
 ·have hr:=hide (show zbM s a p=vioW [s] a p∧zbL s a p=vioB [s] a p by unfold zbM zbL;rw [hT];exact⟨rfl,by simp⟩)
  unfold zcp at hT
  simp only [Bool.and_eq_true] at hT
  obtain⟨v1,v2,v3⟩:=hT
  have hap:=hide (show zw [s]=true by simp [zw,v1])
  have V1:=hide v1
  have V2:=hide v2
  have V3:=hide v3
  clear v1 v2 v3
  go_enter Tryz.func51,Tryz.ntmps51
  go_upto_region 1 with fail
  generalize ((w.alloc (.cells #[.int .i64 s.al,.int .i64 s.st,.slice A n c] 39)).alloc (.cells #[.int .i64 a.al,.slice B m1 d1,.slice B' m1' d1'] 27)).alloc (.cells #[.int .i64 p.al,.slice C m2 d2,.slice C' m2' d2'] 27)=w1 at *
  have c1:=b1.cell
  go_upto_region 3 with (first
   |(go_at_call 52;with_reducible refine (HS.out _ hw1).mono ?_;rw [V1.out];rintro e w2 ⟨rfl,hx2⟩;have hw2:=hw1.trans hx2;have c2:=(b2.ext hx2).cell)
   |(go_at_call 19;with_reducible refine (HA.out _ hw2).mono ?_;rw [V2.out];rintro e w3 ⟨rfl,hx3⟩;have hw3:=hw2.trans hx3;have c3:=(b3.ext (hx2.trans hx3)).cell)
   |(go_at_call 19;with_reducible refine (HP.out _ hw3).mono ?_;rw [V3.out];rintro e w4 ⟨rfl,hx4⟩;have hw4:=hw3.trans hx4))
  have hx14:=hx2.trans (hx3.trans hx4)
  have k1:=(b1.ext hx14).cell
  have e5:=Blk.new w4 39 #[.int .i64 s.al,.int .i64 s.st,.slice A n c]
  have f5:=(Ext.refl w4).alloc (.cells #[.int .i64 s.al,.int .i64 s.st,.slice A n c] 39)
  have k3:=(b3.ext (hx14.trans f5)).cell
  have b25:=b2.ext (hx14.trans f5)
  have hw5:=hw4.trans f5
  obtain⟨l1,h1,hsl⟩:=sl_one e5 (HSy.out _ hw5)
  have HF:=hide (zfz (c:=1) (d2:=d2) (d2':=d2') hsl hap.out (HT.out _ hw5) b25 (HAa.out _ hw5) V2.out (HPa.out _ hw5) V3.out)
  clear c1 c2 c3 b1 b2 b3 hsl e5 b25
  go_wp2_with (go_at_call 102;refine HF.out.mono ?_;rintro e w6 hF;obtain⟨rfl,hx6⟩:=hF.first (zbP _))
  go_ret2
  exact⟨by rw [hr.out.1,hr.out.2];rfl,hw5.trans hx6⟩
 ·have hT':zcp s a p=false:=by simpa using hT
  have hr:=hide (show zbM s a p=ByteArray.empty∧zbL s a p=false by unfold zbM zbL;rw [hT'];exact⟨rfl,rfl⟩)
  have hT2:=hide (show (zk s&&(zf a&&zf p))=false from hT')
  clear hT hT'
  cases h1:zk s<;>cases h2:zf a<;>cases h3:zf p
  all_goals first
   |(exfalso;have:=hT2.out;rw [h1,h2,h3] at this;cases this;done)
   |(have H1:=hide h1
     have H2:=hide h2
     have H3:=hide h3
     clear h1 h2 h3
     go_enter Tryz.func51,Tryz.ntmps51
     go_upto_region 1 with fail
     generalize ((w.alloc (.cells #[.int .i64 s.al,.int .i64 s.st,.slice A n c] 39)).alloc (.cells #[.int .i64 a.al,.slice B m1 d1,.slice B' m1' d1'] 27)).alloc (.cells #[.int .i64 p.al,.slice C m2 d2,.slice C' m2' d2'] 27)=w1 at *
     have c1:=b1.cell
     go_wp2_with (first
      |(go_at_call 52;with_reducible refine (HS.out _ hw1).mono ?_;rw [H1.out];rintro e w2 ⟨rfl,hx2⟩;have hw2:=hw1.trans hx2;have c2:=(b2.ext hx2).cell)
      |(go_at_call 19;with_reducible refine (HA.out _ hw2).mono ?_;rw [H2.out];rintro e w3 ⟨rfl,hx3⟩;have hw3:=hw2.trans hx3;have c3:=(b3.ext (hx2.trans hx3)).cell)
      |(go_at_call 19;with_reducible refine (HP.out _ hw3).mono ?_;rw [H3.out];rintro e w4 ⟨rfl,hx4⟩;have hw4:=hw3.trans hx4))
     go_ret2
     exact⟨by rw [hr.out.1,hr.out.2];rfl,by first|exact hw4|exact hw3|exact hw2⟩)
set_option maxRecDepth 100000 in
theorem zgn (h:zO w lo hi A n s)(ha:zI w lo1 hi1 B m1 B' m1' a)(hp:zI w lo2 hi2 C m2 C' m2' p)(hT:Tab w) :
  Calls Tryz.prog 20 #[.agg #[.int .i64 s.al,.int .i64 s.st,.slice A n c],.agg #[.int .i64 a.al,.slice B m1 d1,.slice B' m1' d1'],.agg #[.int .i64 p.al,.slice C m2 d2,.slice C' m2' d2']] w fun e w'=>e=.returned (.bool (zbm s a p))∧Ext w w':=by
 have HV:=hide (fun W (hW:Ext w W)=>zej (c:=c) (d1:=d1) (d1':=d1') (d2:=d2) (d2':=d2') (h.ext hW) (ha.ext hW) (hp.ext hW) (hT.ext hW))
 have HS:=hide (fun W (hW:Ext w W)=>zam (c:=c) (h.ext hW))
 have HA:=hide (fun W (hW:Ext w W)=>zC _ _ _ _ d1 _ _ d1' _ _ (ha.ext hW))
 have HP:=hide (fun W (hW:Ext w W)=>zC _ _ _ _ d2 _ _ d2' _ _ (hp.ext hW))
 have hr:=hide (show zbm s a p=((zk s&&(zf a&&zf p))&&!zbL s a p) from zfn s a p)
 clear h ha hp hT
 generalize zbL s a p=ub at *
 generalize zbM s a p=uw at *
 have hw1:Ext w (((w.alloc (.cells #[.int .i64 s.al,.int .i64 s.st,.slice A n c] 39)).alloc (.cells #[.int .i64 a.al,.slice B m1 d1,.slice B' m1' d1'] 27)).alloc (.cells #[.int .i64 p.al,.slice C m2 d2,.slice C' m2' d2'] 27)):=(((Ext.refl w).alloc _).alloc _).alloc _
 obtain⟨b1,b2,b3⟩:=zQ (Ext.refl (((w.alloc (.cells #[.int .i64 s.al,.int .i64 s.st,.slice A n c] 39)).alloc (.cells #[.int .i64 a.al,.slice B m1 d1,.slice B' m1' d1'] 27)).alloc (.cells #[.int .i64 p.al,.slice C m2 d2,.slice C' m2' d2'] 27)))
 cases h1:zk s<;>cases h2:zf a<;>cases h3:zf p<;>cases ub
 all_goals
  have H1:=hide h1
  have H2:=hide h2
  have H3:=hide h3
  clear h1 h2 h3
  go_enter Tryz.func20,Tryz.ntmps20
  go_upto_region 1 with fail
  generalize ((w.alloc (.cells #[.int .i64 s.al,.int .i64 s.st,.slice A n c] 39)).alloc (.cells #[.int .i64 a.al,.slice B m1 d1,.slice B' m1' d1'] 27)).alloc (.cells #[.int .i64 p.al,.slice C m2 d2,.slice C' m2' d2'] 27)=w1 at *
  have c1:=b1.cell
  have c2:=b2.cell
  have c3:=b3.cell
  go_wp2_with (first
   |(go_at_call 51;refine (HV.out _ hw1).mono ?_;rintro e w2 ⟨rfl,hx2⟩;have hw2:=hw1.trans hx2;have c12:=(b1.ext hx2).cell)
   |(go_at_call 52;with_reducible refine (HS.out _ hw2).mono ?_;rw [H1.out];rintro e w3 ⟨rfl,hx3⟩;have hw3:=hw2.trans hx3;have c22:=(b2.ext (hx2.trans hx3)).cell)
   |(go_at_call 19;with_reducible refine (HA.out _ hw3).mono ?_;rw [H2.out];rintro e w4 ⟨rfl,hx4⟩;have hw4:=hw3.trans hx4;have c32:=(b3.ext (hx2.trans (hx3.trans hx4))).cell)
   |(go_at_call 19;with_reducible refine (HP.out _ hw4).mono ?_;rw [H3.out];rintro e w5 ⟨rfl,hx5⟩;have hw5:=hw4.trans hx5))
  go_ret
  exact⟨zi (by rw [hr.out,H1.out,H2.out,H3.out];rfl),by first|exact hw5|exact hw4|exact hw3⟩
variable {k:Nat} {ss:List Sys}
set_option maxRecDepth 100000 in
theorem zee (h:SLAt w lo hi A k ss)(hp:zI w lo2 hi2 C m2 C' m2' p)(hT:Tab w) :
  Calls Tryz.prog 53 #[.slice A k c,.agg #[.int .i64 p.al,.slice C m2 d2,.slice C' m2' d2']] w fun e w'=>e=.returned (.tuple #[.string (zaU ss p),.bool (zca ss p)])∧Ext w w':=by
 have HS:=hide (fun W (hW:Ext w W)=>h.ext hW)
 have HP:=hide (fun W (hW:Ext w W)=>hp.ext hW)
 have HT:=hide (fun W (hW:Ext w W)=>hT.ext hW)
 clear h hp hT
 have hw1:Ext w (w.alloc (.cells #[.int .i64 p.al,.slice C m2 d2,.slice C' m2' d2'] 27)):=(Ext.refl w).alloc _
 have b1:=Blk.new w 27 #[.int .i64 p.al,.slice C m2 d2,.slice C' m2' d2']
 cases hA:zw ss
 ·have hr:=hide (show zaU ss p=ByteArray.empty∧zca ss p=false by unfold zaU zca zcH;rw [hA];exact⟨rfl,rfl⟩)
  have HA:=hide hA
  clear hA
  go_enter Tryz.func53,Tryz.ntmps53
  go_upto_region 1 with fail
  generalize w.alloc (.cells #[.int .i64 p.al,.slice C m2 d2,.slice C' m2' d2'] 27)=w1 at *
  go_wp2_with (go_at_call 45;refine (zay (HS.out _ hw1)).mono ?_;rw [HA.out];rintro e w2 ⟨rfl,hx2⟩)
  go_ret2
  exact⟨by rw [hr.out.1,hr.out.2];rfl,hw1.trans hx2⟩
 ·cases hV:zf p
  ·have hr:=hide (show zaU ss p=ByteArray.empty∧zca ss p=false by unfold zaU zca zcH;rw [hA,hV];exact⟨rfl,rfl⟩)
   have HV:=hide hV
   have HA:=hide hA
   clear hA hV
   go_enter Tryz.func53,Tryz.ntmps53
   go_upto_region 1 with fail
   generalize w.alloc (.cells #[.int .i64 p.al,.slice C m2 d2,.slice C' m2' d2'] 27)=w1 at *
   go_wp2_with (first
    |(go_at_call 45;refine (zay (HS.out _ hw1)).mono ?_;rw [HA.out];rintro e w2 ⟨rfl,hx2⟩;have hw2:=hw1.trans hx2;have c2:=(b1.ext hx2).cell)
    |(go_at_call 19;refine (zC _ _ _ _ _ _ _ _ _ _ (HP.out _ hw2)).mono ?_;rw [HV.out];rintro e w3 ⟨rfl,hx3⟩;have hw3:=hw2.trans hx3))
   go_ret2
   exact⟨by rw [hr.out.1,hr.out.2];rfl,hw3⟩
  ·have hr:=hide (show zaU ss p=vioW ss free p∧zca ss p=vioB ss free p by unfold zaU zca zcH;rw [hA,hV];exact⟨rfl,by simp⟩)
   have HV:=hide hV
   have HA:=hide hA
   clear hA hV
   go_enter Tryz.func53,Tryz.ntmps53
   go_upto_region 1 with fail
   generalize w.alloc (.cells #[.int .i64 p.al,.slice C m2 d2,.slice C' m2' d2'] 27)=w1 at *
   go_wp2_with (first
    |(go_at_call 45;refine (zay (HS.out _ hw1)).mono ?_;rw [HA.out];rintro e w2 ⟨rfl,hx2⟩;have hw2:=hw1.trans hx2;have c2:=(b1.ext hx2).cell)
    |(go_at_call 19;refine (zC _ _ _ _ _ _ _ _ _ _ (HP.out _ hw2)).mono ?_;rw [HV.out];rintro e w3 ⟨rfl,hx3⟩;have hw3:=hw2.trans hx3;have c3:=(b1.ext (hx2.trans hx3)).cell)
    |(go_at_call 102;refine (zdN (c:=c) (d2:=d2) (d2':=d2') (HS.out _ hw3) HA.out (HT.out _ hw3) (HP.out _ hw3) HV.out).mono ?_;rintro e w4 hF;obtain⟨rfl,hx4⟩:=hF.first (zbP _)))
   go_ret2
   exact⟨by rw [hr.out.1,hr.out.2];rfl,hw3.trans hx4⟩
set_option maxRecDepth 100000 in
theorem zgG (h:SLAt w lo hi A k ss)(hp:zI w lo2 hi2 C m2 C' m2' p)(hT:Tab w) :
  Calls Tryz.prog 22 #[.slice A k c,.agg #[.int .i64 p.al,.slice C m2 d2,.slice C' m2' d2']] w fun e w'=>e=.returned (.bool (zaP ss p))∧Ext w w':=by
 have HV:=hide (fun W (hW:Ext w W)=>zee (c:=c) (d2:=d2) (d2':=d2') (h.ext hW) (hp.ext hW) (hT.ext hW))
 have HS:=hide (fun W (hW:Ext w W)=>h.ext hW)
 have HP:=hide (fun W (hW:Ext w W)=>hp.ext hW)
 have hr:=hide (show zaP ss p=(zw ss&&zf p&&!zca ss p) from zgh ss p)
 clear h hp hT
 generalize zca ss p=ub at *
 generalize zaU ss p=uw at *
 have hw1:Ext w (w.alloc (.cells #[.int .i64 p.al,.slice C m2 d2,.slice C' m2' d2'] 27)):=(Ext.refl w).alloc _
 have b1:=Blk.new w 27 #[.int .i64 p.al,.slice C m2 d2,.slice C' m2' d2']
 cases hA:zw ss<;>cases hVv:zf p<;>cases ub
 all_goals
  have HA:=hide (show zw ss=_ from hA)
  have HVv:=hide hVv
  clear hA hVv
  go_enter Tryz.func22,Tryz.ntmps22
  go_upto_region 1 with fail
  generalize w.alloc (.cells #[.int .i64 p.al,.slice C m2 d2,.slice C' m2' d2'] 27)=w1 at *
  have c1:=b1.cell
  go_wp2_with (first
   |(go_at_call 53;refine (HV.out _ hw1).mono ?_;rintro e w2 ⟨rfl,hx2⟩;have hw2:=hw1.trans hx2)
   |(go_at_call 45;refine (zay (HS.out _ hw2)).mono ?_;rw [HA.out];rintro e w3 ⟨rfl,hx3⟩;have hw3:=hw2.trans hx3;have c3:=(b1.ext (hx2.trans hx3)).cell)
   |(go_at_call 19;refine (zC _ _ _ _ _ _ _ _ _ _ (HP.out _ hw3)).mono ?_;rw [HVv.out];rintro e w4 ⟨rfl,hx4⟩;have hw4:=hw3.trans hx4))
  go_ret
  exact⟨zi (by rw [hr.out,HA.out,HVv.out];rfl),by first|exact hw4|exact hw3⟩
set_option maxRecDepth 100000 in
theorem zeQ (h:zO w lo hi A n s)(hp:zI w lo2 hi2 C m2 C' m2' p)(hT:Tab w) :
  Calls Tryz.prog 21 #[.agg #[.int .i64 s.al,.int .i64 s.st,.slice A n c],.agg #[.int .i64 p.al,.slice C m2 d2,.slice C' m2' d2']] w fun e w'=>e=.returned (.bool (zaP [s] p))∧Ext w w':=by
 have HS:=hide (fun W (hW:Ext w W)=>h.ext hW)
 have HP:=hide (fun W (hW:Ext w W)=>hp.ext hW)
 have HT:=hide (fun W (hW:Ext w W)=>hT.ext hW)
 clear h hp hT
 have hw1:Ext w ((w.alloc (.cells #[.int .i64 s.al,.int .i64 s.st,.slice A n c] 39)).alloc (.cells #[.int .i64 p.al,.slice C m2 d2,.slice C' m2' d2'] 27)):=((Ext.refl w).alloc _).alloc _
 obtain⟨b1,b2⟩:=zV (Ext.refl ((w.alloc (.cells #[.int .i64 s.al,.int .i64 s.st,.slice A n c] 39)).alloc (.cells #[.int .i64 p.al,.slice C m2 d2,.slice C' m2' d2'] 27)))
 go_enter Tryz.func21,Tryz.ntmps21
 go_upto_region 1 with fail
 generalize (w.alloc (.cells #[.int .i64 s.al,.int .i64 s.st,.slice A n c] 39)).alloc (.cells #[.int .i64 p.al,.slice C m2 d2,.slice C' m2' d2'] 27)=w1 at *
 have c1:=b1.cell
 have e2:=Blk.new w1 39 #[.int .i64 s.al,.int .i64 s.st,.slice A n c]
 have f2:=(Ext.refl w1).alloc (.cells #[.int .i64 s.al,.int .i64 s.st,.slice A n c] 39)
 have c2:=(b2.ext f2).cell
 have hw2:=hw1.trans f2
 obtain⟨l1,h1,hsl⟩:=sl_one e2 (HS.out _ hw2)
 go_wp2_with (go_at_call 22;refine (zgG hsl (HP.out _ hw2) (HT.out _ hw2)).mono ?_;rintro e w3 ⟨rfl,hx3⟩)
 go_ret
 exact⟨zi rfl,hw2.trans hx3⟩
end
set_option maxHeartbeats 1000000
def three (ss:List Sys) (p:Aut):Bool:=decide (ss.length=3)&&(zw ss&&zf p)
set_option maxHeartbeats 1000000
def chain1 (ss:List Sys) (p:Aut):Int:=
 if three ss p then match ss with
  |[x,y,z]=>bits .and .i64 (bits .or .i64 x.al p.al) (bits .or .i64 y.al z.al)
  |_ => -1
 else -1
def chain2 (ss:List Sys) (p:Aut):Int:=
 if three ss p then match ss with
  |[_,y,z]=>bits .and .i64 (bits .or .i64 y.al (chain1 ss p)) z.al
  |_ => -1
 else -1
theorem three_list {ss:List Sys} {p:Aut}(h:three ss p=true):∃ x y z,ss=[x,y,z]:=by
 simp only [three,Bool.and_eq_true,decide_eq_true_eq] at h
 match ss,h.1 with
 |[x,y,z],_=>exact⟨x,y,z,rfl⟩
set_option maxHeartbeats 4000000
noncomputable def faultN (ss:List Sys) (p f g:Aut):Int:=
 if (three ss p&&(zf f&&zf g))=false then 1
 else if (decide (f.al=chain1 ss p)&&decide (g.al=chain2 ss p))=false then 2
 else match ss with
  |[x,y,z]=>if (zbm x f p&&zbm y g f)=false then 3 else if zaP [z] g=false then 4 else 0
  |_=>0
set_option maxHeartbeats 4000000
def iface (s:Sys) (p:Aut) (t:Sys):Int:=if (zk s&&(zf p&&zk t))=true then (((s.al.toNat|||p.al.toNat)&&&t.al.toNat:Nat):Int) else -1
section
variable {lo hi n c:Nat} {A:Option Addr} {s:Sys} {lo1 hi1 m1 d1 m1' d1':Nat} {B B':Option Addr} {p:Aut} {lo2 hi2 k c2:Nat} {C:Option Addr} {t:Sys} {w:World}
set_option maxRecDepth 100000 in
theorem zaV (h:zO w lo hi A n s)(hp:zI w lo1 hi1 B m1 B' m1' p)(ht:zO w lo2 hi2 C k t) :
  Calls Tryz.prog 58 #[.agg #[.int .i64 s.al,.int .i64 s.st,.slice A n c],.agg #[.int .i64 p.al,.slice B m1 d1,.slice B' m1' d1'],.agg #[.int .i64 t.al,.int .i64 t.st,.slice C k c2]] w fun e w'=>e=.returned (.int .i64 (iface s p t))∧Ext w w':=by
 have HS:=hide (fun W (hW:Ext w W)=>zad (c:=c) (h.ext hW))
 have HP:=hide (fun W (hW:Ext w W)=>zE _ _ _ _ d1 _ _ d1' _ _ (hp.ext hW))
 have HT:=hide (fun W (hW:Ext w W)=>zad (c:=c2) (ht.ext hW))
 clear h hp ht
 cases h1:zk s<;>cases h2:zf p<;>cases h3:zk t
 case true.true.true =>
  have H1:=hide h1
  have H2:=hide h2
  have H3:=hide h3
  have v1:=zR h1
  have v2:=(zj h2).1
  have v3:=zR h3
  obtain⟨a,ha⟩:∃ a:Nat,Hid (s.al=a):=⟨s.al.toNat,by unfold Hid;omega⟩
  obtain⟨b,hb⟩:∃ a:Nat,Hid (p.al=a):=⟨p.al.toNat,by unfold Hid;omega⟩
  obtain⟨d,hd⟩:∃ a:Nat,Hid (t.al=a):=⟨t.al.toNat,by unfold Hid;omega⟩
  have hr:=hide (show iface s p t=((((a|||b)&&&d:Nat)):Int) by unfold iface;rw [h1,h2,h3,ha.out,hb.out,hd.out];rfl)
  rw [ha.out] at v1
  rw [hb.out] at v2
  rw [hd.out] at v3
  have a6:a≤63:=by omega
  have b6:b≤63:=by omega
  have d6:d≤63:=by omega
  have o6:=Nat.or_lt_two_pow (n:=6) (x:=a) (y:=b) (by omega) (by omega)
  have ho:=zbE (a:=a) (b:=b) (by unfold Sm;omega) (by unfold Sm;omega)
  have hn:=zci (a:=a|||b) (b:=d) (by unfold Sm;omega) (by unfold Sm;omega)
  clear h1 h2 h3 v1 v2 v3 o6
  rw [ha.out] at HS ⊢
  rw [hb.out] at HP ⊢
  rw [hd.out] at HT ⊢
  have hw1:Ext w (((w.alloc (.cells #[.int .i64 a,.int .i64 s.st,.slice A n c] 39)).alloc (.cells #[.int .i64 b,.slice B m1 d1,.slice B' m1' d1'] 27)).alloc (.cells #[.int .i64 d,.int .i64 t.st,.slice C k c2] 39)):=(((Ext.refl w).alloc _).alloc _).alloc _
  obtain⟨b1,b2,b3⟩:=zQ (Ext.refl (((w.alloc (.cells #[.int .i64 a,.int .i64 s.st,.slice A n c] 39)).alloc (.cells #[.int .i64 b,.slice B m1 d1,.slice B' m1' d1'] 27)).alloc (.cells #[.int .i64 d,.int .i64 t.st,.slice C k c2] 39)))
  go_enter Tryz.func58,Tryz.ntmps58
  go_upto_region 1 with fail
  generalize ((w.alloc (.cells #[.int .i64 a,.int .i64 s.st,.slice A n c] 39)).alloc (.cells #[.int .i64 b,.slice B m1 d1,.slice B' m1' d1'] 27)).alloc (.cells #[.int .i64 d,.int .i64 t.st,.slice C k c2] 39)=w1 at *
  have c1:=b1.cell
  go_wp2_with (first
   |(go_at_call 112;with_reducible refine (HS.out _ hw1).mono ?_;rw [H1.out];rintro e w2 ⟨rfl,hx2⟩;have hw2:=hw1.trans hx2;have c2:=(b2.ext hx2).cell)
   |(go_at_call 46;with_reducible refine (HP.out _ hw2).mono ?_;rw [H2.out];rintro e w3 ⟨rfl,hx3⟩;have hw3:=hw2.trans hx3;have c3:=(b3.ext (hx2.trans hx3)).cell)
   |(go_at_call 112;with_reducible refine (HT.out _ hw3).mono ?_;rw [H3.out];rintro e w4 ⟨rfl,hx4⟩;have hw4:=hw3.trans hx4;have k1:=(b1.ext (hx2.trans (hx3.trans hx4))).cell;have k2:=(b2.ext (hx2.trans (hx3.trans hx4))).cell;have k3:=(b3.ext (hx2.trans (hx3.trans hx4))).cell))
  go_ret
  exact⟨zA (by rw [hr.out]),hw4⟩
 all_goals
  have hr:=hide (show iface s p t = -1 by unfold iface;rw [h1,h2,h3];rfl)
  have H1:=hide h1
  have H2:=hide h2
  have H3:=hide h3
  clear h1 h2 h3
  have hw1:Ext w (((w.alloc (.cells #[.int .i64 s.al,.int .i64 s.st,.slice A n c] 39)).alloc (.cells #[.int .i64 p.al,.slice B m1 d1,.slice B' m1' d1'] 27)).alloc (.cells #[.int .i64 t.al,.int .i64 t.st,.slice C k c2] 39)):=(((Ext.refl w).alloc _).alloc _).alloc _
  obtain⟨b1,b2,b3⟩:=zQ (Ext.refl (((w.alloc (.cells #[.int .i64 s.al,.int .i64 s.st,.slice A n c] 39)).alloc (.cells #[.int .i64 p.al,.slice B m1 d1,.slice B' m1' d1'] 27)).alloc (.cells #[.int .i64 t.al,.int .i64 t.st,.slice C k c2] 39)))
  go_enter Tryz.func58,Tryz.ntmps58
  go_upto_region 1 with fail
  generalize ((w.alloc (.cells #[.int .i64 s.al,.int .i64 s.st,.slice A n c] 39)).alloc (.cells #[.int .i64 p.al,.slice B m1 d1,.slice B' m1' d1'] 27)).alloc (.cells #[.int .i64 t.al,.int .i64 t.st,.slice C k c2] 39)=w1 at *
  have c1:=b1.cell
  go_wp2_with (first
   |(go_at_call 112;with_reducible refine (HS.out _ hw1).mono ?_;rw [H1.out];rintro e w2 ⟨rfl,hx2⟩;have hw2:=hw1.trans hx2;have c2:=(b2.ext hx2).cell)
   |(go_at_call 46;with_reducible refine (HP.out _ hw2).mono ?_;rw [H2.out];rintro e w3 ⟨rfl,hx3⟩;have hw3:=hw2.trans hx3;have c3:=(b3.ext (hx2.trans hx3)).cell)
   |(go_at_call 112;with_reducible refine (HT.out _ hw3).mono ?_;rw [H3.out];rintro e w4 ⟨rfl,hx4⟩;have hw4:=hw3.trans hx4))
  go_ret
  exact⟨zA (by rw [hr.out]),by first|exact hw4|exact hw3|exact hw2⟩
set_option maxRecDepth 100000 in
theorem zfw (h:zO w lo hi A n s)(hp:zI w lo1 hi1 B m1 B' m1' p)(ht:zO w lo2 hi2 C k t) :
  Calls Tryz.prog 30 #[.agg #[.int .i64 s.al,.int .i64 s.st,.slice A n c],.agg #[.int .i64 p.al,.slice B m1 d1,.slice B' m1' d1'],.agg #[.int .i64 t.al,.int .i64 t.st,.slice C k c2]] w fun e w'=>e=.returned (.int .i64 (iface s p t))∧Ext w w':=by
 have HS:=hide (fun W (hW:Ext w W)=>zam (c:=c) (h.ext hW))
 have HP:=hide (fun W (hW:Ext w W)=>zC _ _ _ _ d1 _ _ d1' _ _ (hp.ext hW))
 have HT:=hide (fun W (hW:Ext w W)=>zam (c:=c2) (ht.ext hW))
 clear h hp ht
 cases h1:zk s<;>cases h2:zf p<;>cases h3:zk t
 case true.true.true =>
  have H1:=hide h1
  have H2:=hide h2
  have H3:=hide h3
  have v1:=zR h1
  have v2:=(zj h2).1
  have v3:=zR h3
  obtain⟨a,ha⟩:∃ a:Nat,Hid (s.al=a):=⟨s.al.toNat,by unfold Hid;omega⟩
  obtain⟨b,hb⟩:∃ a:Nat,Hid (p.al=a):=⟨p.al.toNat,by unfold Hid;omega⟩
  obtain⟨d,hd⟩:∃ a:Nat,Hid (t.al=a):=⟨t.al.toNat,by unfold Hid;omega⟩
  have hr:=hide (show iface s p t=((((a|||b)&&&d:Nat)):Int) by unfold iface;rw [h1,h2,h3,ha.out,hb.out,hd.out];rfl)
  rw [ha.out] at v1
  rw [hb.out] at v2
  rw [hd.out] at v3
  have a6:a≤63:=by omega
  have b6:b≤63:=by omega
  have d6:d≤63:=by omega
  have o6:=Nat.or_lt_two_pow (n:=6) (x:=a) (y:=b) (by omega) (by omega)
  have ho:=zbE (a:=a) (b:=b) (by unfold Sm;omega) (by unfold Sm;omega)
  have hn:=zci (a:=a|||b) (b:=d) (by unfold Sm;omega) (by unfold Sm;omega)
  clear h1 h2 h3 v1 v2 v3 o6
  rw [ha.out] at HS ⊢
  rw [hb.out] at HP ⊢
  rw [hd.out] at HT ⊢
  have hw1:Ext w (((w.alloc (.cells #[.int .i64 a,.int .i64 s.st,.slice A n c] 39)).alloc (.cells #[.int .i64 b,.slice B m1 d1,.slice B' m1' d1'] 27)).alloc (.cells #[.int .i64 d,.int .i64 t.st,.slice C k c2] 39)):=(((Ext.refl w).alloc _).alloc _).alloc _
  obtain⟨b1,b2,b3⟩:=zQ (Ext.refl (((w.alloc (.cells #[.int .i64 a,.int .i64 s.st,.slice A n c] 39)).alloc (.cells #[.int .i64 b,.slice B m1 d1,.slice B' m1' d1'] 27)).alloc (.cells #[.int .i64 d,.int .i64 t.st,.slice C k c2] 39)))
  go_enter Tryz.func30,Tryz.ntmps30
  go_upto_region 1 with fail
  generalize ((w.alloc (.cells #[.int .i64 a,.int .i64 s.st,.slice A n c] 39)).alloc (.cells #[.int .i64 b,.slice B m1 d1,.slice B' m1' d1'] 27)).alloc (.cells #[.int .i64 d,.int .i64 t.st,.slice C k c2] 39)=w1 at *
  have c1:=b1.cell
  go_wp2_with (first
   |(go_at_call 52;with_reducible refine (HS.out _ hw1).mono ?_;rw [H1.out];rintro e w2 ⟨rfl,hx2⟩;have hw2:=hw1.trans hx2;have c2:=(b2.ext hx2).cell)
   |(go_at_call 19;with_reducible refine (HP.out _ hw2).mono ?_;rw [H2.out];rintro e w3 ⟨rfl,hx3⟩;have hw3:=hw2.trans hx3;have c3:=(b3.ext (hx2.trans hx3)).cell)
   |(go_at_call 52;with_reducible refine (HT.out _ hw3).mono ?_;rw [H3.out];rintro e w4 ⟨rfl,hx4⟩;have hw4:=hw3.trans hx4;have k1:=(b1.ext (hx2.trans (hx3.trans hx4))).cell;have k2:=(b2.ext (hx2.trans (hx3.trans hx4))).cell;have k3:=(b3.ext (hx2.trans (hx3.trans hx4))).cell))
  go_ret
  exact⟨zA (by rw [hr.out]),hw4⟩
 all_goals
  have hr:=hide (show iface s p t = -1 by unfold iface;rw [h1,h2,h3];rfl)
  have H1:=hide h1
  have H2:=hide h2
  have H3:=hide h3
  clear h1 h2 h3
  have hw1:Ext w (((w.alloc (.cells #[.int .i64 s.al,.int .i64 s.st,.slice A n c] 39)).alloc (.cells #[.int .i64 p.al,.slice B m1 d1,.slice B' m1' d1'] 27)).alloc (.cells #[.int .i64 t.al,.int .i64 t.st,.slice C k c2] 39)):=(((Ext.refl w).alloc _).alloc _).alloc _
  obtain⟨b1,b2,b3⟩:=zQ (Ext.refl (((w.alloc (.cells #[.int .i64 s.al,.int .i64 s.st,.slice A n c] 39)).alloc (.cells #[.int .i64 p.al,.slice B m1 d1,.slice B' m1' d1'] 27)).alloc (.cells #[.int .i64 t.al,.int .i64 t.st,.slice C k c2] 39)))
  go_enter Tryz.func30,Tryz.ntmps30
  go_upto_region 1 with fail
  generalize ((w.alloc (.cells #[.int .i64 s.al,.int .i64 s.st,.slice A n c] 39)).alloc (.cells #[.int .i64 p.al,.slice B m1 d1,.slice B' m1' d1'] 27)).alloc (.cells #[.int .i64 t.al,.int .i64 t.st,.slice C k c2] 39)=w1 at *
  have c1:=b1.cell
  go_wp2_with (first
   |(go_at_call 52;with_reducible refine (HS.out _ hw1).mono ?_;rw [H1.out];rintro e w2 ⟨rfl,hx2⟩;have hw2:=hw1.trans hx2;have c2:=(b2.ext hx2).cell)
   |(go_at_call 19;with_reducible refine (HP.out _ hw2).mono ?_;rw [H2.out];rintro e w3 ⟨rfl,hx3⟩;have hw3:=hw2.trans hx3;have c3:=(b3.ext (hx2.trans hx3)).cell)
   |(go_at_call 52;with_reducible refine (HT.out _ hw3).mono ?_;rw [H3.out];rintro e w4 ⟨rfl,hx4⟩;have hw4:=hw3.trans hx4))
  go_ret
  exact⟨zA (by rw [hr.out]),by first|exact hw4|exact hw3|exact hw2⟩
end
set_option maxHeartbeats 4000000
theorem zeJ {w w':World} {cs ds es fs:Array Value} {t u v x:TypeId}(h:Ext ((((w.alloc (.cells cs t)).alloc (.cells ds u)).alloc (.cells es v)).alloc (.cells fs x)) w'):Blk w' w.heap.size t cs∧Blk w' (w.heap.size+1) u ds∧Blk w' (w.heap.size+1+1) v es∧Blk w' (w.heap.size+1+1+1) x fs:=by
 have h2:=zQ (((Ext.refl _).alloc _).trans h)
 refine⟨h2.1,h2.2.1,h2.2.2,?_⟩
 have:=zbG h
 simpa using this
noncomputable def zav (s t:Sys) (p a:Aut):Int:=if iface s p t<0∨zf a=false then 1 else if a.al≠iface s p t then 2 else if zbm s a p=false then 3 else if zaP [t] a=false then 4 else 0
section
variable {lo hi n c:Nat} {A:Option Addr} {s:Sys} {lo1 hi1 m1 d1 m1' d1':Nat} {B B':Option Addr} {p:Aut} {lo2 hi2 k c2:Nat} {C:Option Addr} {t:Sys} {w:World}
variable {lo3 hi3 m2 d2 m2' d2':Nat} {D D':Option Addr} {a:Aut}
theorem yG10a5 {P:Prop}(h:P:=by
 go_enter Tryz.func61,Tryz.ntmps61
 go_upto_region 1 with fail
 generalize (((w.alloc (.cells #[.int .i64 s.al,.int .i64 s.st,.slice A n c] 39)).alloc (.cells #[.int .i64 t.al,.int .i64 t.st,.slice C k c2] 39)).alloc (.cells #[.int .i64 p.al,.slice B m1 d1,.slice B' m1' d1'] 27)).alloc (.cells #[.int .i64 a.al,.slice D m2 d2,.slice D' m2' d2'] 27)=w1 at *
 have c1:=b1.cell
 have c2:=b2.cell
 have c3:=b3.cell
 go_wp2_with (first
  |(go_at_call 58;with_reducible refine (HI.out _ hw1).mono ?_;rintro e w2 ⟨rfl,hx2⟩;have hw2:=hw1.trans hx2;have c42:=(b4.ext hx2).cell)
  |(go_at_call 46;with_reducible refine (HA.out _ hw2).mono ?_;rw [H1.out];rintro e w3 ⟨rfl,hx3⟩;have hx13:=hx2.trans hx3;have hw3:=hw1.trans hx13;have c13:=(b1.ext hx13).cell;have c33:=(b3.ext hx13).cell;have c43:=(b4.ext hx13).cell)
  |(go_at_call 47;with_reducible refine (HU.out _ hw3).mono ?_;rintro e w4 ⟨rfl,hx4⟩;have hx14:=hx13.trans hx4;have hw4:=hw1.trans hx14;have c24:=(b2.ext hx14).cell;have c44:=(b4.ext hx14).cell)
  |(go_at_call 48;with_reducible refine (HK.out _ hw4).mono ?_;rintro e w5 ⟨rfl,hx5⟩;have hw5:=hw4.trans hx5))
 go_ret
 exact⟨zA (by rw [hr.out];try rfl),by first|exact hw5|exact hw4|exact hw3|exact hw2⟩
 ):P:=h
set_option maxRecDepth 100000 in
theorem zdH (h:zO w lo hi A n s)(ht:zO w lo2 hi2 C k t)(hp:zI w lo1 hi1 B m1 B' m1' p)(ha:zI w lo3 hi3 D m2 D' m2' a) :
  Calls Tryz.prog 61 #[.agg #[.int .i64 s.al,.int .i64 s.st,.slice A n c],.agg #[.int .i64 t.al,.int .i64 t.st,.slice C k c2],.agg #[.int .i64 p.al,.slice B m1 d1,.slice B' m1' d1'],.agg #[.int .i64 a.al,.slice D m2 d2,.slice D' m2' d2']] w fun e w'=>e=.returned (.int .i64 (zav s t p a))∧Ext w w':=by
 have HI:=hide (fun W (hW:Ext w W)=>zaV (c:=c) (d1:=d1) (d1':=d1') (c2:=c2) (h.ext hW) (hp.ext hW) (ht.ext hW))
 have HA:=hide (fun W (hW:Ext w W)=>zE _ _ _ _ d2 _ _ d2' _ _ (ha.ext hW))
 have HU:=hide (fun W (hW:Ext w W)=>zgq (c:=c) (d1:=d2) (d1':=d2') (d2:=d1) (d2':=d1') (h.ext hW) (ha.ext hW) (hp.ext hW))
 have HK:=hide (fun W (hW:Ext w W)=>zeD (c:=c2) (d2:=d2) (d2':=d2') (ht.ext hW) (ha.ext hW))
 have hr:=hide (show zav s t p a=if iface s p t<0∨zf a=false then 1 else if a.al≠iface s p t then 2 else if zbm s a p=false then 3 else if zaP [t] a=false then 4 else 0 from rfl)
 clear h hp ht ha
 have hw1:Ext w ((((w.alloc (.cells #[.int .i64 s.al,.int .i64 s.st,.slice A n c] 39)).alloc (.cells #[.int .i64 t.al,.int .i64 t.st,.slice C k c2] 39)).alloc (.cells #[.int .i64 p.al,.slice B m1 d1,.slice B' m1' d1'] 27)).alloc (.cells #[.int .i64 a.al,.slice D m2 d2,.slice D' m2' d2'] 27)):=((((Ext.refl w).alloc _).alloc _).alloc _).alloc _
 obtain⟨b1,b2,b3,b4⟩:=zeJ (Ext.refl ((((w.alloc (.cells #[.int .i64 s.al,.int .i64 s.st,.slice A n c] 39)).alloc (.cells #[.int .i64 t.al,.int .i64 t.st,.slice C k c2] 39)).alloc (.cells #[.int .i64 p.al,.slice B m1 d1,.slice B' m1' d1'] 27)).alloc (.cells #[.int .i64 a.al,.slice D m2 d2,.slice D' m2' d2'] 27)))
 generalize iface s p t=I at *
 generalize zbm s a p=u at *
 generalize zaP [t] a=v at *
 by_cases hI:I<0
 ·rw [if_pos (Or.inl hI)] at hr
  obtain⟨y,H1⟩:∃ y,Hid (zf a=y):=⟨_,rfl⟩
  have hI2:=hide hI
  exact yG10a5
 have hI0:¬ I<0:=hI
 have hI1:0≤I:=by omega
 clear hI
 cases h1:zf a
 ·rw [h1,if_pos (Or.inr rfl)] at hr
  have H1:=hide h1
  clear h1
  exact yG10a5
 rw [h1,if_neg (by rintro (h|h);exact hI0 h;cases h)] at hr
 have H1:=hide h1
 clear h1
 by_cases h2:a.al=I
 ·rw [if_neg (fun hn=>hn h2)] at hr
  subst h2
  cases u<;>cases v
  all_goals
   have H3:=hide (rfl:true=true)
   have H4:=hide (rfl:true=true)
   exact yG10a5
 ·rw [if_pos h2] at hr
  have h2b:(a.al==I)=false:=by simpa using h2
  exact yG10a5
theorem yG10a4 {P:Prop}(h:P:=by
 go_enter Tryz.func23,Tryz.ntmps23
 go_upto_region 1 with fail
 generalize (((w.alloc (.cells #[.int .i64 s.al,.int .i64 s.st,.slice A n c] 39)).alloc (.cells #[.int .i64 t.al,.int .i64 t.st,.slice C k c2] 39)).alloc (.cells #[.int .i64 p.al,.slice B m1 d1,.slice B' m1' d1'] 27)).alloc (.cells #[.int .i64 a.al,.slice D m2 d2,.slice D' m2' d2'] 27)=w1 at *
 have c1:=b1.cell
 have c2:=b2.cell
 have c3:=b3.cell
 go_wp2_with (first
  |(go_at_call 30;with_reducible refine (HI.out _ hw1).mono ?_;rintro e w2 ⟨rfl,hx2⟩;have hw2:=hw1.trans hx2;have c42:=(b4.ext hx2).cell)
  |(go_at_call 19;with_reducible refine (HA.out _ hw2).mono ?_;rw [H1.out];rintro e w3 ⟨rfl,hx3⟩;have hx13:=hx2.trans hx3;have hw3:=hw1.trans hx13;have c13:=(b1.ext hx13).cell;have c33:=(b3.ext hx13).cell;have c43:=(b4.ext hx13).cell)
  |(go_at_call 20;with_reducible refine (HU.out _ hw3).mono ?_;rintro e w4 ⟨rfl,hx4⟩;have hx14:=hx13.trans hx4;have hw4:=hw1.trans hx14;have c24:=(b2.ext hx14).cell;have c44:=(b4.ext hx14).cell)
  |(go_at_call 21;with_reducible refine (HK.out _ hw4).mono ?_;rintro e w5 ⟨rfl,hx5⟩;have hw5:=hw4.trans hx5))
 go_ret
 exact⟨zA (by rw [hr.out];try rfl),by first|exact hw5|exact hw4|exact hw3|exact hw2⟩
 ):P:=h
set_option maxRecDepth 100000 in
theorem zdJ (h:zO w lo hi A n s)(ht:zO w lo2 hi2 C k t)(hp:zI w lo1 hi1 B m1 B' m1' p)(ha:zI w lo3 hi3 D m2 D' m2' a)(hT:Tab w) :
  Calls Tryz.prog 23 #[.agg #[.int .i64 s.al,.int .i64 s.st,.slice A n c],.agg #[.int .i64 t.al,.int .i64 t.st,.slice C k c2],.agg #[.int .i64 p.al,.slice B m1 d1,.slice B' m1' d1'],.agg #[.int .i64 a.al,.slice D m2 d2,.slice D' m2' d2']] w fun e w'=>e=.returned (.int .i64 (zav s t p a))∧Ext w w':=by
 have HI:=hide (fun W (hW:Ext w W)=>zfw (c:=c) (d1:=d1) (d1':=d1') (c2:=c2) (h.ext hW) (hp.ext hW) (ht.ext hW))
 have HA:=hide (fun W (hW:Ext w W)=>zC _ _ _ _ d2 _ _ d2' _ _ (ha.ext hW))
 have HU:=hide (fun W (hW:Ext w W)=>zgn (c:=c) (d1:=d2) (d1':=d2') (d2:=d1) (d2':=d1') (h.ext hW) (ha.ext hW) (hp.ext hW) (hT.ext hW))
 have HK:=hide (fun W (hW:Ext w W)=>zeQ (c:=c2) (d2:=d2) (d2':=d2') (ht.ext hW) (ha.ext hW) (hT.ext hW))
 have hr:=hide (show zav s t p a=if iface s p t<0∨zf a=false then 1 else if a.al≠iface s p t then 2 else if zbm s a p=false then 3 else if zaP [t] a=false then 4 else 0 from rfl)
 clear h hp ht ha
 have hw1:Ext w ((((w.alloc (.cells #[.int .i64 s.al,.int .i64 s.st,.slice A n c] 39)).alloc (.cells #[.int .i64 t.al,.int .i64 t.st,.slice C k c2] 39)).alloc (.cells #[.int .i64 p.al,.slice B m1 d1,.slice B' m1' d1'] 27)).alloc (.cells #[.int .i64 a.al,.slice D m2 d2,.slice D' m2' d2'] 27)):=((((Ext.refl w).alloc _).alloc _).alloc _).alloc _
 obtain⟨b1,b2,b3,b4⟩:=zeJ (Ext.refl ((((w.alloc (.cells #[.int .i64 s.al,.int .i64 s.st,.slice A n c] 39)).alloc (.cells #[.int .i64 t.al,.int .i64 t.st,.slice C k c2] 39)).alloc (.cells #[.int .i64 p.al,.slice B m1 d1,.slice B' m1' d1'] 27)).alloc (.cells #[.int .i64 a.al,.slice D m2 d2,.slice D' m2' d2'] 27)))
 generalize iface s p t=I at *
 generalize zbm s a p=u at *
 generalize zaP [t] a=v at *
 by_cases hI:I<0
 ·rw [if_pos (Or.inl hI)] at hr
  obtain⟨y,H1⟩:∃ y,Hid (zf a=y):=⟨_,rfl⟩
  have hI2:=hide hI
  exact yG10a4
 have hI0:¬ I<0:=hI
 have hI1:0≤I:=by omega
 clear hI
 cases h1:zf a
 ·rw [h1,if_pos (Or.inr rfl)] at hr
  have H1:=hide h1
  clear h1
  exact yG10a4
 rw [h1,if_neg (by rintro (h|h);exact hI0 h;cases h)] at hr
 have H1:=hide h1
 clear h1
 by_cases h2:a.al=I
 ·rw [if_neg (fun hn=>hn h2)] at hr
  subst h2
  cases u<;>cases v
  all_goals
   have H3:=hide (rfl:true=true)
   have H4:=hide (rfl:true=true)
   exact yG10a4
 ·rw [if_pos h2] at hr
  have h2b:(a.al==I)=false:=by simpa using h2
  exact yG10a4
end
set_option maxHeartbeats 400000
def zG (hd:Bool) (a:Aut) (s:ByteArray):Bool:=if hd then zf a&&s.toList.isEmpty else zek a&&zaS s
theorem zax (lo hi:Nat) (A:Option Addr) (n c:Nat) (A':Option Addr) (n' c':Nat)(hd:Bool) (a:Aut) (s:ByteArray) (w:World)(h:zI w lo hi A n A' n' a)(hs:s.size≤9223372036854775807) :
  Calls Tryz.prog 59 #[.agg #[.bool hd,.int .i64 a.al,.slice A n c,.slice A' n' c',.string s]] w fun e w'=>e=.returned (.bool (zG hd a s))∧Ext w w':=by
 have hR:=fun W (hW:Ext w W)=>h.ext hW
 have HR:=hide hR
 clear hR
 cases hd
 ·cases hb:zek a
  all_goals
   have Hb:=hide hb
   clear hb
   go_enter Tryz.func59,Tryz.ntmps59
   go_wp2_with (first
    |(go_at_call 113;refine (spec_l13None _ _ _ _ _ _ _ _ _ _ (HR.out _ ?_)).mono ?_;exact (Ext.refl _).alloc _;rw [Hb.out];rintro e w2 ⟨rfl,hext2⟩;have hbox:=zcq hext2)
    |(go_at_call 114;refine (zaX s _ hs).mono ?_;rintro e w' ⟨rfl,rfl⟩))
   go_ret
   exact⟨zi (by rw [zG,Hb.out];simp),((Ext.refl _).alloc _).trans hext2⟩
 ·cases hb:zf a
  all_goals
   have Hb:=hide hb
   clear hb
   go_enter Tryz.func59,Tryz.ntmps59
   go_wp2_with (go_at_call 46;refine (zE _ _ _ _ _ _ _ _ _ _ (HR.out _ ?_)).mono ?_;exact (Ext.refl _).alloc _;rw [Hb.out];rintro e w2 ⟨rfl,hext2⟩;have hbox:=zcq hext2)
   go_ret
   exact⟨zi (by rw [zG,Hb.out];simp),((Ext.refl _).alloc _).trans hext2⟩
theorem zdt (lo hi:Nat) (A:Option Addr) (n c:Nat) (A':Option Addr) (n' c':Nat)(hd:Bool) (a:Aut) (s:ByteArray) (w:World)(h:zI w lo hi A n A' n' a)(hs:s.size≤9223372036854775807) :
  Calls Tryz.prog 27 #[.agg #[.bool hd,.int .i64 a.al,.slice A n c,.slice A' n' c',.string s]] w fun e w'=>e=.returned (.bool (zG hd a s))∧Ext w w':=by
 have hR:=fun W (hW:Ext w W)=>h.ext hW
 have HR:=hide hR
 clear hR
 cases hd
 ·have Hv:=hide (show zek a=(decide (a.al=0)&&(decide (n=0)&&decide (n'=0))) by unfold zek;rw [← h.n1,← h.n2])
  have hl1:=h.1.len
  have hl2:=h.2.2.len
  clear h
  by_cases h0:a.al=0
  ·have hb:((a.al:Int)==0)=true:=by simp [h0]
   have H0:=hide h0
   clear h0
   by_cases h1:n=0
   ·have hb1:((n:Int)==0)=true:=by simp [h1]
    have H1:=hide h1
    clear h1
    by_cases h2:n'=0
    ·have hb2:((n':Int)==0)=true:=by simp [h2]
     have H2:=hide h2
     clear h2
     go_enter Tryz.func27,Tryz.ntmps27
     go_wp2_with (go_at_call 62;refine (zcz s _ hs).mono ?_;rintro e w' ⟨rfl,rfl⟩)
     go_ret
     exact⟨zi (by rw [zG,Hv.out,H0.out,H1.out,H2.out];simp),((Ext.refl _).alloc _).alloc _⟩
    ·have hb2:((n':Int)==0)=false:=by simp [h2]
     go_enter Tryz.func27,Tryz.ntmps27
     go_wp2_with fail
     go_ret
     exact⟨zi (by rw [zG,Hv.out];simp [h2]),((Ext.refl _).alloc _).alloc _⟩
   ·have hb1:((n:Int)==0)=false:=by simp [h1]
    go_enter Tryz.func27,Tryz.ntmps27
    go_wp2_with fail
    go_ret
    exact⟨zi (by rw [zG,Hv.out];simp [h1]),((Ext.refl _).alloc _).alloc _⟩
  ·have hb:((a.al:Int)==0)=false:=by simp [h0]
   go_enter Tryz.func27,Tryz.ntmps27
   go_wp2_with fail
   go_ret
   exact⟨zi (by rw [zG,Hv.out];simp [h0]),((Ext.refl _).alloc _).alloc _⟩
 ·cases hb:zf a
  all_goals
   have Hb:=hide hb
   clear hb
   go_enter Tryz.func27,Tryz.ntmps27
   go_wp2_with (go_at_call 19;refine (zC _ _ _ _ _ _ _ _ _ _ (HR.out _ ?_)).mono ?_;exact (Ext.refl _).alloc _;rw [Hb.out];rintro e w2 ⟨rfl,hext2⟩;have hbox:=zcq hext2)
   go_ret
   exact⟨zi (by rw [zG,Hb.out];simp),((Ext.refl _).alloc _).trans hext2⟩
set_option maxHeartbeats 4000000
def runA (p:Aut) (q:Nat) (ls:List Nat):Nat:=ls.foldl (aGo p) q
theorem zeB (p:Aut) (q:Nat) (ls:List Nat) (l:Nat):runA p q (ls++[l])=aGo p (runA p q ls) l:=by simp [runA]
theorem zea {p:Aut}(hv:zf p=true) {ls:List Nat}(h:∀ l∈ls,l<6) {q:Nat}(hq:q<p.next.length):runA p q ls<p.next.length:=by
 induction ls generalizing q with
 |nil=>exact hq
 |cons l r ih=>exact ih (fun x hx=>h x (List.mem_cons_of_mem _ hx)) (zeN hv hq (h l List.mem_cons_self))
theorem runA_filter (p:Aut) (ls:List Nat) (q:Nat):runA p q (ls.filter fun l=>p.al.toNat.testBit l)=runA p q ls:=by
 induction ls generalizing q with
 |nil=>rfl
 |cons l r ih =>
  rw [List.filter_cons]
  show _=runA p (aGo p q l) r
  cases hb:p.al.toNat.testBit l
  ·have e:aGo p q l=q:=by unfold aGo;rw [hb];rfl
   rw [e];simpa using ih q
  ·simp only [if_true]
   exact ih (aGo p q l)
theorem zgO (s:ByteArray) (a:Nat):(zba s a).data.toList=zeO a s.data.toList:=by
 unfold zba strOfNums bnum
 simp only [List.map_map]
 refine (List.map_congr_left (g:=id) fun b _=>?_).trans (List.map_id _)
 simp
theorem wl_restB {s:ByteArray}(h:zaS s=true) (a:Nat):wl (zba s a)=(wl s).filter fun l=>a.testBit l:=by
 unfold wl
 rw [zgO]
 unfold zeO
 have hb:∀ b∈s.data.toList,97≤b.toNat∧b.toNat≤102:=by
  intro b hb
  obtain⟨i,hi⟩:=List.getElem?_of_mem hb
  have hil:i<s.size:=by have:=(List.getElem?_eq_some_iff.1 hi).1;simpa using this
  rw [zbT s i hil] at hi
  obtain rfl:=Option.some.inj hi
  exact zaM h hil
 generalize s.data.toList=L at hb
 clear h
 induction L with
 |nil=>rfl
 |cons b r ih =>
  have h0:=hb b List.mem_cons_self
  have ih:=ih fun x hx=>hb x (List.mem_cons_of_mem _ hx)
  have e:hasB a (ltr b.toNat)=a.testBit (b.toNat - 97):=by
   unfold hasB ltr
   rw [if_neg (by omega),decide_eq_true (by omega),Bool.true_and]
   congr 1
   omega
  rw [List.filter_cons,List.map_cons,List.filter_cons,e]
  cases a.testBit (b.toNat - 97)
  ·simpa using ih
  ·simp only [if_true,List.map_cons]
   rw [ih]
theorem zeu {s:ByteArray}(h:zaS s=true) (a:Nat):inB (zba s a) a=true:=by
 unfold inB zdy
 rw [zgO,Bool.and_eq_true,decide_eq_true_eq]
 refine⟨Nat.le_trans (zfa s a) (zaN h),?_⟩
 rw [List.all_eq_true]
 intro b hb
 exact (List.mem_filter.1 hb).2
def zce (p:Aut) (t:ByteArray):Bool:=zf p&&(zaS t&&!accB p (runA p 0 (wl t)))
section
variable {lo hi m d m' d':Nat} {B B':Option Addr} {p:Aut} {t:ByteArray} {w:World}
set_option maxRecDepth 100000 in
theorem zgK (h:zI w lo hi B m B' m' p)(hv:zf p=true)(ht:zaS t=true) :
  Calls Tryz.prog 177 #[.agg #[.int .i64 p.al,.slice B m d,.slice B' m' d'],.int .i64 0,.string t] w fun e w'=>e=.returned (.int .i64 (runA p 0 (wl t):Nat))∧Ext w w':=by
 have HS:=hide (fun W (hW:Ext w W)=>h.ext hW)
 have hsz:=zaN ht
 have Hb:=hide (fun k hk=>zaM ht (k:=k) hk)
 have hn1:=(zj hv).2.1
 have Hv:=hide hv
 have Hlt:=hide (fun k=>zea hv (ls:=(wl t).take k) (fun l hl=>zhi ht l (List.mem_of_mem_take hl)) (q:=0) (by omega))
 clear h hv ht
 go_enter Tryz.func177,Tryz.ntmps177
 go_upto_region 1 with fail
 have hw1:Ext w (w.alloc (.cells #[.int .i64 p.al,.slice B m d,.slice B' m' d'] 27)):=(Ext.refl w).alloc _
 have b1:=Blk.new w 27 #[.int .i64 p.al,.slice B m d,.slice B' m' d']
 generalize w.alloc (.cells #[.int .i64 p.al,.slice B m d,.slice B' m' d'] 27)=w1 at *
 go_wp2_with fail
 go_loopw [1,7] (fun v i wr=>∃ k x:Nat,i=.int .i64 k∧k≤t.size∧v=.int .i64 x∧Hid (x=runA p 0 ((wl t).take k))∧Ext w1 wr) (fun _ i _=>t.size - (intOf i).toNat)
 case atStart=>exact⟨0,0,rfl,Nat.zero_le _,rfl,rfl,Ext.refl _⟩
 case round =>
  obtain⟨k,x,rfl,hk,rfl,hxo,hxr⟩:=hrel
  by_cases hlt:k<t.size
  ·have hbb:=Hb.out k hlt
   obtain⟨l,hl⟩:∃ l:Nat,Hid ((t[k].toNat:Int) - 97=l):=⟨t[k].toNat - 97,by unfold Hid;omega⟩
   have hl6:l<6:=by have:=hl.out;omega
   have hst:=hide (show aGo p x l=runA p 0 ((wl t).take (k+1)) by
    rw [List.take_add_one,zdX hlt,Option.toList_some,zeB,← hxo.out]
    congr 1
    have:=hl.out;omega)
   have hxl:x<p.next.length:=by rw [hxo.out];exact Hlt.out k
   have HC:=hide (fun W (hW:Ext w1 W)=>zcP (d:=d) (d':=d') (HS.out W (hw1.trans hW)) Hv.out hxl hl6)
   generalize aGo p x l=y at *
   have c1:∀ W,Ext wr W→∀ j,W.cell? ⟨w.heap.size,j,none⟩=#[Value.int .i64 p.al,.slice B m d,.slice B' m' d'][j]?:=fun W hW=>(b1.ext (hxr.trans hW)).cell
   have hww:=Ext.refl wr
   clear hbb
   go_upto_region 4 with fail
   refine uR (fun X=>Ext wr X) [5] (OrdU.of [0,1,2,3,4,5,6]) ?_
   refine uQ ?_
   (refine zb rfl rfl rfl (fun K hK=>?_);go_simp)
   refine (zbg t k hlt _).mono ?_
   rw [hl.out]
   rintro e w' ⟨rfl,rfl⟩
   refine hK.out _ _ hww.drew ?_
   refine pT ?_
   (refine za rfl rfl rfl rfl (fun K hK=>?_))
   go_simp
   refine (HC.out _ (hxr.trans hww.drew)).mono ?_
   rintro e w5 ⟨rfl,hx5⟩
   refine hK.out _ _ ?_
   refine pT ?_
   refine uQ ?_
   refine zd ?_
   have hx6:=hxr.trans (hww.drew.trans hx5)
   go_wp2_with fail
   go_roundw
   case rel=>exact⟨k+1,y,by go_num,by omega,rfl,hst,hx6⟩
   case measure=>simp [intOf];omega
  ·obtain rfl:k=t.size:=by omega
   have hfin:=hide (show x=runA p 0 (wl t) by rw [hxo.out,List.take_of_length_le (by rw [zdV];exact Nat.le_refl _)])
   go_wp2
   go_ret
   exact⟨zA (by rw [hfin.out]),hw1.trans hxr⟩
set_option maxRecDepth 100000 in
theorem zem (h:zI w lo hi B m B' m' p)(ht:t.size≤9223372036854775807) :
  Calls Tryz.prog 116 #[.agg #[.int .i64 p.al,.slice B m d,.slice B' m' d'],.string t] w fun e w'=>e=.returned (.bool (zce p t))∧Ext w w':=by
 have HA:=hide (fun W (hW:Ext w W)=>zE _ _ _ _ d _ _ d' _ _ (h.ext hW))
 have HR:=hide (fun W (hW:Ext w W)=>zgK (d:=d) (d':=d') (t:=t) (h.ext hW))
 have HB:=hide (fun W (hW:Ext w W) q hq=>zcF (q:=q) (h.ext hW) hq)
 have hm2:=hide h.n2
 clear h
 have hr:=hide (show zce p t=(zf p&&(zaS t&&!accB p (runA p 0 (wl t)))) from rfl)
 have hw1:Ext w (w.alloc (.cells #[.int .i64 p.al,.slice B m d,.slice B' m' d'] 27)):=(Ext.refl w).alloc _
 have b1:=Blk.new w 27 #[.int .i64 p.al,.slice B m d,.slice B' m' d']
 by_cases hall:zf p=true∧zaS t=true
 ·obtain⟨h1,h2⟩:=hall
  have H1:=hide h1
  have H2:=hide h2
  have hq:=zea h1 (zhi h2) (q:=0) (by have:=(zj h1).2.1;omega)
  have hac:=(zj h1).2.2.1
  have hqm:runA p 0 (wl t)<m':=by have:=hm2.out;omega
  clear h1 h2 hac
  go_enter Tryz.func116,Tryz.ntmps116
  go_upto_region 3 with (first
   |(go_at_call 46;refine (HA.out _ hw1).mono ?_;rw [H1.out];rintro e w2 ⟨rfl,hx2⟩)
   |(go_at_call 114;refine (zaX _ _ ht).mono ?_;rw [H2.out];rintro e w3 ⟨rfl,rfl⟩))
  have HR2:=hide (fun W hW=>HR.out W hW H1.out H2.out)
  clear HR
  generalize hqe:runA p 0 (wl t)=q at *
  clear hqe hq
  obtain⟨ad,hBe,_⟩:=HB.out w (Ext.refl w) q hqm
  have cA:∀ W,Ext w W→W.cell? (ad.add q)=some (.bool (accB p q)):=by
   intro W hW
   obtain⟨ad',e,hc⟩:=HB.out W hW q hqm
   rw [hBe] at e
   obtain rfl:=Option.some.inj e
   exact hc
  subst hBe
  have hw2:=hw1.trans hx2
  generalize w.alloc (.cells #[.int .i64 p.al,.slice B m d,.slice (some ad) m' d'] 27)=w1 at *
  have c1:∀ W,Ext w2 W→∀ j,W.cell? ⟨w.heap.size,j,none⟩=#[Value.int .i64 p.al,.slice B m d,.slice (some ad) m' d'][j]?:=fun W hW=>(b1.ext (hx2.trans hW)).cell
  have dA:∀ W,Ext w2 W→W.cell? (ad.add q)=some (.bool (accB p q)):=fun W hW=>cA W (hw2.trans hW)
  have hww:=Ext.refl w2
  refine uR (fun X=>Ext w2 X) [] (OrdU.of [0,1,2,3,4,5,6,7,8]) ?_
  refine uQ ?_
  (refine zb rfl rfl rfl (fun K hK=>?_);go_simp)
  refine (HR2.out _ (hw2.trans hww.drew)).mono ?_
  rintro e w5 ⟨rfl,hx5⟩
  have hx6:=hww.drew.trans hx5
  refine hK.out _ _ hx6 ?_
  refine pT ?_
  refine uQ ?_
  refine zd ?_
  go_wp2_with fail
  go_ret
  exact⟨zi (by rw [hr.out,H1.out,H2.out];rfl),hw2.trans hx6⟩
 ·have hr2:=hide (show zce p t=false by
   rw [hr.out]
   cases h1:zf p
   ·rfl
   ·cases h2:zaS t
    ·rfl
    ·exact absurd ⟨h1,h2⟩ hall)
  cases h1:zf p<;>cases h2:zaS t
  case true.true=>exact absurd ⟨h1,h2⟩ hall
  all_goals
   have H1:=hide h1
   have H2:=hide h2
   clear h1 h2 hall
   go_enter Tryz.func116,Tryz.ntmps116
   go_wp2_with (first
    |(go_at_call 46;refine (HA.out _ hw1).mono ?_;rw [H1.out];rintro e w2 ⟨rfl,hx2⟩)
    |(go_at_call 114;refine (zaX _ _ ht).mono ?_;rw [H2.out];rintro e w3 ⟨rfl,rfl⟩))
   go_ret
   exact⟨zi (by rw [hr2.out]),hw1.trans hx2⟩
end
set_option maxHeartbeats 4000000
section
variable {lo hi m d m' d':Nat} {B B':Option Addr} {p:Aut} {t:ByteArray} {w:World}
set_option maxRecDepth 100000 in
theorem zgb (h:zI w lo hi B m B' m' p)(hv:zf p=true)(ht:inB t p.al.toNat=true) :
  Calls Tryz.prog 119 #[.agg #[.int .i64 p.al,.slice B m d,.slice B' m' d'],.string t] w fun e w'=>e=.returned (.int .i64 (runA p 0 (wl t):Nat))∧Ext w w':=by
 have HT:=hide (fun W (hW:Ext w W)=>zbX (d:=d) (d':=d') (h.ext hW) hv)
 have HA:=hide (fun W (hW:Ext w W)=>zC _ _ _ _ d _ _ d' _ _ (h.ext hW))
 have hwd:=zaL ht
 have hsz:=zaN hwd
 have Hb:=hide (fun k hk=>zaM hwd (k:=k) hk)
 have hn1:=(zj hv).2.1
 obtain⟨al0,al1⟩:=(zj hv).1
 obtain⟨al,hal⟩:∃ al:Nat,Hid (p.al=al):=⟨p.al.toNat,by unfold Hid;omega⟩
 have hal6:al≤63:=by have:=hal.out;omega
 have hto:p.al.toNat=al:=by have:=hal.out;omega
 rw [hto] at ht
 have Hi:=hide (show (decide (t.size≤50000)&&zdy t al)=true from ht)
 have Hv:=hide hv
 have Hlt:=hide (fun k=>zea hv (ls:=(wl t).take k) (fun l hl=>zhi hwd l (List.mem_of_mem_take hl)) (q:=0) (by omega))
 clear h hv ht hto hwd
 rw [hal.out] at HT HA ⊢
 clear al0 al1
 go_enter Tryz.func119,Tryz.ntmps119
 go_upto_region 1 with fail
 have hw1:Ext w (w.alloc (.cells #[.int .i64 al,.slice B m d,.slice B' m' d'] 27)):=(Ext.refl w).alloc _
 have b1:=Blk.new w 27 #[.int .i64 al,.slice B m d,.slice B' m' d']
 generalize w.alloc (.cells #[.int .i64 al,.slice B m d,.slice B' m' d'] 27)=w1 at *
 have c1:=b1.cell
 go_wp2_with (first
  |(go_at_call 19;refine (HA.out _ hw1).mono ?_;rw [Hv.out];rintro e w2 ⟨rfl,hx2⟩;have hw2:=hw1.trans hx2;have c2:=(b1.ext hx2).cell)
  |(go_at_call 63;refine (zaO t al _ (by omega) hal6).mono ?_;rw [Hi.out];rintro e w3 ⟨rfl,rfl⟩)
  |(go_at_call 132;refine (HT.out _ hw2).mono ?_;rintro e w4 ⟨TA,tc,rfl,hTO,hx4⟩))
 have hw4:=hw2.trans hx4
 have HM:=hide (fun W (hW:Ext w4 W)=>(hTO.ext hW).at_)
 clear hTO c1 c2
 go_loopw [6,7,22] (fun v _ i wr=>∃ k x:Nat,i=.int .i64 k∧k≤t.size∧v=.int .i64 x∧Hid (x=runA p 0 ((wl t).take k))∧Ext w4 wr) (fun _ _ i _=>t.size - (intOf i).toNat)
 case atStart=>exact⟨0,0,rfl,Nat.zero_le _,rfl,rfl,Ext.refl _⟩
 case round =>
  obtain⟨k,x,rfl,hk,rfl,hxo,hxr⟩:=hrel
  by_cases hlt:k<t.size
  ·have hbb:=Hb.out k hlt
   obtain⟨l,hl⟩:∃ l:Nat,Hid (ltr t[k].toNat=l∧l<6∧t[k].toNat - 97=l):=⟨t[k].toNat - 97,by unfold Hid ltr;rw [if_neg (by omega)];omega⟩
   have hl6:=hl.out.2.1
   have hl6i:((l:Nat):Int)<6:=by omega
   have hst:=hide (show aGo p x l=runA p 0 ((wl t).take (k+1)) by
    rw [List.take_add_one,zdX hlt,Option.toList_some,zeB,← hxo.out,hl.out.2.2])
   have hxl:x<p.next.length:=by rw [hxo.out];exact Hlt.out k
   obtain⟨lo2,hi2,hta⟩:=HM.out wr hxr
   have HC:=hide (fun W (hW:Ext wr W)=>(hta.ext hW).at_ hxl hl6)
   obtain⟨g,o,hTA,hc0⟩:=hta.at_ hxl hl6
   subst hTA
   generalize aGo p x l=y at *
   have d1:∀ W,Ext wr W→W.cell? ⟨g,o+x*6+l,none⟩=some (.int .i64 (y:Nat)):=fun W hW=>hW.cell_some hc0
   clear hbb hta HC
   generalize p.next.length=N at *
   go_upto_region 8 with fail
   have hww:=Ext.refl wr
   refine uR (fun X=>Ext wr X) [] (OrdU.of [0,1,2,3,5,4,6,7,8]) ?_
   refine uQ ?_
   (refine zb rfl rfl rfl (fun K hK=>?_);go_simp)
   refine (zbh t k hlt _).mono ?_
   rw [hl.out.1]
   rintro e w' ⟨rfl,rfl⟩
   refine hK.out _ _ hww.drew ?_
   refine pT ?_
   refine uQ ?_
   refine zd ?_
   have hx6:=hxr.trans hww.drew
   go_wp2_with fail
   go_roundw
   case rel=>exact⟨k+1,y,by go_num,by omega,rfl,hst,hx6⟩
   case measure=>simp [intOf];omega
  ·obtain rfl:k=t.size:=by omega
   have hfin:=hide (show x=runA p 0 (wl t) by rw [hxo.out,List.take_of_length_le (by rw [zdV];exact Nat.le_refl _)])
   go_wp2
   go_ret
   exact⟨zA (by rw [hfin.out]),hw4.trans hxr⟩
set_option maxRecDepth 100000 in
theorem zfC (h:zI w lo hi B m B' m' p)(hv:zf p=true)(ht:inB t p.al.toNat=true) :
  Calls Tryz.prog 67 #[.agg #[.int .i64 p.al,.slice B m d,.slice B' m' d'],.string t] w fun e w'=>e=.returned (.bool (accB p (runA p 0 (wl t))))∧Ext w w':=by
 have HA:=hide (fun W (hW:Ext w W)=>zgb (d:=d) (d':=d') (h.ext hW) hv ht)
 have HB:=hide (fun W (hW:Ext w W) q hq=>zcF (q:=q) (h.ext hW) hq)
 have hq:=zea hv (zhi (zaL ht)) (q:=0) (by have:=(zj hv).2.1;omega)
 have hac:=(zj hv).2.2.1
 have hm2:=h.n2
 have hqm:runA p 0 (wl t)<m':=by omega
 clear h hv ht hac
 generalize hqe:runA p 0 (wl t)=q at *
 clear hqe hq hm2
 obtain⟨ad,hBe,_⟩:=HB.out w (Ext.refl w) q hqm
 have cA:∀ W,Ext w W→W.cell? (ad.add q)=some (.bool (accB p q)):=by
  intro W hW
  obtain⟨ad',e,hc⟩:=HB.out W hW q hqm
  rw [hBe] at e
  obtain rfl:=Option.some.inj e
  exact hc
 subst hBe
 have hw1:Ext w (w.alloc (.cells #[.int .i64 p.al,.slice B m d,.slice (some ad) m' d'] 27)):=(Ext.refl w).alloc _
 have b1:=Blk.new w 27 #[.int .i64 p.al,.slice B m d,.slice (some ad) m' d']
 go_enter Tryz.func67,Tryz.ntmps67
 go_upto_region 1 with fail
 generalize w.alloc (.cells #[.int .i64 p.al,.slice B m d,.slice (some ad) m' d'] 27)=w1 at *
 have c1:=b1.cell
 go_wp2_with (go_at_call 119;refine (HA.out _ hw1).mono ?_;rintro e w2 ⟨rfl,hx2⟩;have c2:=(b1.ext hx2).cell;have cA2:=cA _ (hw1.trans hx2))
 go_ret
 exact⟨zi (by rfl),hw1.trans hx2⟩
set_option maxRecDepth 100000 in
theorem zeo (h:zI w lo hi B m B' m' p)(ht:t.size≤9223372036854775807) :
  Calls Tryz.prog 29 #[.agg #[.int .i64 p.al,.slice B m d,.slice B' m' d'],.string t] w fun e w'=>e=.returned (.bool (zce p t))∧Ext w w':=by
 have HA:=hide (fun W (hW:Ext w W)=>zC _ _ _ _ d _ _ d' _ _ (h.ext hW))
 have hr:=hide (show zce p t=(zf p&&(zaS t&&!accB p (runA p 0 (wl t)))) from rfl)
 have hw1:Ext w (w.alloc (.cells #[.int .i64 p.al,.slice B m d,.slice B' m' d'] 27)):=(Ext.refl w).alloc _
 have b1:=Blk.new w 27 #[.int .i64 p.al,.slice B m d,.slice B' m' d']
 cases h1:zf p
 ·have H1:=hide h1
  clear h1
  go_enter Tryz.func29,Tryz.ntmps29
  go_upto_region 1 with fail
  generalize w.alloc (.cells #[.int .i64 p.al,.slice B m d,.slice B' m' d'] 27)=w1 at *
  have c1:=b1.cells
  have hww:=Ext.refl w1
  refine uR (fun X=>Ext w1 X) [12] (OrdU.of [0,1,2,3,4,5,6,7,8,9,10,11,12,13,14,15]) ?_
  refine uQ ?_
  (refine zb rfl rfl rfl (fun K hK=>?_);go_simp)
  refine (HA.out _ (hw1.trans hww.drew)).mono ?_
  rw [H1.out]
  rintro e w2 ⟨rfl,hx2⟩
  have hx3:=hww.drew.trans hx2
  refine hK.out _ _ hx3 ?_
  refine pT ?_
  refine uQ ?_
  refine zd ?_
  go_wp2_with fail
  go_ret
  exact⟨zi (by rw [hr.out,H1.out];rfl),hw1.trans hx3⟩
 ·cases h2:zaS t
  ·have H1:=hide h1
   have H2:=hide h2
   clear h1 h2
   go_enter Tryz.func29,Tryz.ntmps29
   go_upto_region 1 with fail
   generalize w.alloc (.cells #[.int .i64 p.al,.slice B m d,.slice B' m' d'] 27)=w1 at *
   have c1:=b1.cells
   have hww:=Ext.refl w1
   refine uR (fun X=>Ext w1 X) [12] (OrdU.of [0,1,2,3,4,5,6,7,8,9,10,11,12,13,14,15]) ?_
   refine uQ ?_
   (refine zb rfl rfl rfl (fun K hK=>?_);go_simp)
   refine (HA.out _ (hw1.trans hww.drew)).mono ?_
   rw [H1.out]
   rintro e w2 ⟨rfl,hx2⟩
   have hx3:=hww.drew.trans hx2
   refine hK.out _ _ hx3 ?_
   refine pT ?_
   refine uQ ?_
   (refine zb rfl rfl rfl (fun K hK=>?_);go_simp)
   refine (zcz _ _ ht).mono ?_
   rw [H2.out]
   rintro e w3 ⟨rfl,rfl⟩
   refine hK.out _ _ hx3 ?_
   refine pT ?_
   refine uQ ?_
   refine zd ?_
   go_wp2_with fail
   go_ret
   exact⟨zi (by rw [hr.out,H1.out,H2.out];rfl),hw1.trans hx3⟩
  ·obtain⟨al0,al1⟩:=(zj h1).1
   obtain⟨al,hal⟩:∃ al:Nat,Hid (p.al=al):=⟨p.al.toNat,by unfold Hid;omega⟩
   have hal6:al≤63:=by have:=hal.out;omega
   have hto:=hide (show p.al.toNat=al by have:=hal.out;omega)
   have HR:=hide (fun W=>zeI (w:=W) h2 hal6)
   have HW:=hide (fun W (hW:Ext w W)=>zfC (d:=d) (d':=d') (t:=zba t al) (h.ext hW) h1 (by rw [hto.out];exact zeu h2 al))
   have hrr:=hide (show runA p 0 (wl (zba t al))=runA p 0 (wl t) by rw [wl_restB h2,← hto.out,runA_filter])
   rw [hrr.out] at HW
   have H1:=hide h1
   have H2:=hide h2
   clear h h1 h2 al0 al1
   rw [hal.out] at HA HW hw1 b1 ⊢
   generalize zba t al=t' at *
   go_enter Tryz.func29,Tryz.ntmps29
   go_upto_region 1 with fail
   generalize w.alloc (.cells #[.int .i64 al,.slice B m d,.slice B' m' d'] 27)=w1 at *
   have c1:=b1.cells
   have hww:=Ext.refl w1
   refine uR (fun X=>Ext w1 X) [12] (OrdU.of [0,1,2,3,4,5,6,7,8,9,10,11,12,13,14,15]) ?_
   refine uQ ?_
   (refine zb rfl rfl rfl (fun K hK=>?_);go_simp)
   refine (HA.out _ (hw1.trans hww.drew)).mono ?_
   rw [H1.out]
   rintro e w2 ⟨rfl,hx2⟩
   have hx3:=hww.drew.trans hx2
   refine hK.out _ _ hx3 ?_
   refine pT ?_
   refine uQ ?_
   (refine zb rfl rfl rfl (fun K hK=>?_);go_simp)
   refine (zcz _ _ ht).mono ?_
   rw [H2.out]
   rintro e w3 ⟨rfl,rfl⟩
   refine hK.out _ _ hx3 ?_
   refine pT ?_
   refine uQ ?_
   (refine zb rfl rfl rfl (fun K hK=>?_);go_simp)
   refine (HR.out _).mono ?_
   rintro e w4 ⟨rfl,hx4⟩
   have hx5:=hx3.trans hx4
   refine hK.out _ _ hx5 ?_
   refine pT ?_
   refine uQ ?_
   (refine za rfl rfl rfl rfl (fun K hK=>?_))
   go_simp
   refine (HW.out _ (hw1.trans hx5)).mono ?_
   rintro e w6 ⟨rfl,hx6⟩
   refine hK.out _ _ ?_
   refine pT ?_
   refine uQ ?_
   refine zd ?_
   go_wp2_with fail
   go_ret
   exact⟨zi (by rw [hr.out,H1.out,H2.out];rfl),hw1.trans (hx5.trans hx6)⟩
end
set_option maxHeartbeats 4000000
theorem zdW {w:World} {g lo hi n c lo2 hi2 k c2:Nat} {A C:Option Addr} {s t:Sys}(hb:Blk w g 39 #[.int .i64 s.al,.int .i64 s.st,.slice A n c,.int .i64 t.al,.int .i64 t.st,.slice C k c2])(h:zO w lo hi A n s)(h':zO w lo2 hi2 C k t):∃ lo hi,SLAt w lo hi (some ⟨g,0,none⟩) 2 [s,t]:=by
 refine⟨0,hi+hi2+g+1,rfl,[.int .i64 s.al,.int .i64 s.st,.slice A n c,.int .i64 t.al,.int .i64 t.st,.slice C k c2],⟨rfl,by omega,fun _=>⟨_,rfl,Nat.zero_le _,by dsimp only;omega,fun j u hu=>?_⟩⟩,fun j u hu=>?_⟩
 ·rw [zT,Nat.zero_add,hb.cell]
  simpa using hu
 ·match j with
  |0 =>
   simp at hu;subst hu
   exact⟨A,n,c,rfl,rfl,rfl,h.1,h.2.more (Nat.zero_le _) (by omega)⟩
  |1 =>
   simp at hu;subst hu
   exact⟨C,k,c2,rfl,rfl,rfl,h'.1,h'.2.more (Nat.zero_le _) (by omega)⟩
  |j+2=>simp at hu
def zcx (s t:Sys) (p:Aut) (x:ByteArray):Int:=if topB [s,t] x=false then 6 else if zce p x=false then 7 else 0
noncomputable def zaR (s t:Sys) (p:Aut) (hd:Bool) (a:Aut) (x:ByteArray):Int:=
 if iface s p t<0 then 1 else if zG hd a x=false then 2 else if hd=false then zcx s t p x
 else if zav s t p a=2 then 3 else if zav s t p a=3 then 4 else if zav s t p a=4 then 5 else 0
theorem zcL (s t:Sys) (p:Aut):iface s p t<0↔(zk s&&(zf p&&zk t))=false:=by
 unfold iface
 cases h:(zk s&&(zf p&&zk t))
 ·simp
 ·simp
section
variable {lo hi n c:Nat} {A:Option Addr} {s:Sys} {lo1 hi1 m1 d1 m1' d1':Nat} {B B':Option Addr} {p:Aut} {lo2 hi2 k c2:Nat} {C:Option Addr} {t:Sys} {x:ByteArray} {w:World}
set_option maxRecDepth 100000 in
theorem zhB (h:zO w lo hi A n s)(ht:zO w lo2 hi2 C k t)(hp:zI w lo1 hi1 B m1 B' m1' p)(hx:x.size≤9223372036854775807) :
  Calls Tryz.prog 60 #[.agg #[.int .i64 s.al,.int .i64 s.st,.slice A n c],.agg #[.int .i64 t.al,.int .i64 t.st,.slice C k c2],.agg #[.int .i64 p.al,.slice B m1 d1,.slice B' m1' d1'],.string x] w fun e w'=>e=.returned (.int .i64 (zcx s t p x))∧Ext w w':=by
 have HS:=hide (fun W (hW:Ext w W)=>h.ext hW)
 have HS':=hide (fun W (hW:Ext w W)=>ht.ext hW)
 have HB:=hide (fun W (hW:Ext w W)=>zem (d:=d1) (d':=d1') (hp.ext hW) hx)
 have hr:=hide (show zcx s t p x=if topB [s,t] x=false then 6 else if zce p x=false then 7 else 0 from rfl)
 clear h ht hp
 have hw1:Ext w (((w.alloc (.cells #[.int .i64 s.al,.int .i64 s.st,.slice A n c] 39)).alloc (.cells #[.int .i64 t.al,.int .i64 t.st,.slice C k c2] 39)).alloc (.cells #[.int .i64 p.al,.slice B m1 d1,.slice B' m1' d1'] 27)):=(((Ext.refl w).alloc _).alloc _).alloc _
 obtain⟨b1,b2,b3⟩:=zQ (Ext.refl (((w.alloc (.cells #[.int .i64 s.al,.int .i64 s.st,.slice A n c] 39)).alloc (.cells #[.int .i64 t.al,.int .i64 t.st,.slice C k c2] 39)).alloc (.cells #[.int .i64 p.al,.slice B m1 d1,.slice B' m1' d1'] 27)))
 cases h1:topB [s,t] x<;>cases h2:zce p x
 all_goals
  have H1:=hide h1
  have H2:=hide h2
  clear h1 h2
  go_enter Tryz.func60,Tryz.ntmps60
  go_upto_region 1 with fail
  generalize ((w.alloc (.cells #[.int .i64 s.al,.int .i64 s.st,.slice A n c] 39)).alloc (.cells #[.int .i64 t.al,.int .i64 t.st,.slice C k c2] 39)).alloc (.cells #[.int .i64 p.al,.slice B m1 d1,.slice B' m1' d1'] 27)=w1 at *
  have c1:=b1.cells
  have c2':=b2.cells
  have c3:=b3.cells
  have hx0:=Ext.refl w1
  have e6:=Blk.new w1 39 #[.int .i64 s.al,.int .i64 s.st,.slice A n c,.int .i64 t.al,.int .i64 t.st,.slice C k c2]
  have f6:=(Ext.refl w1).alloc (.cells #[.int .i64 s.al,.int .i64 s.st,.slice A n c,.int .i64 t.al,.int .i64 t.st,.slice C k c2] 39)
  obtain⟨l1,l2,hsl⟩:=zdW e6 (HS.out _ (hw1.trans f6)) (HS'.out _ (hw1.trans f6))
  go_wp2_with (first
   |(go_at_call 115;with_reducible refine (zcN hsl hx).mono ?_;rw [H1.out];rintro e w2 ⟨rfl,hx2⟩;have hx12:=f6.trans hx2)
   |(go_at_call 116;with_reducible refine (HB.out _ (hw1.trans hx12)).mono ?_;rw [H2.out];rintro e w3 ⟨rfl,hx3⟩;have hx13:=hx12.trans hx3))
  go_ret
  exact⟨zA (by rw [hr.out,H1.out];try rw [H2.out];try rfl),hw1.trans (by first|exact hx13|exact hx12)⟩
variable {lo3 hi3 m2 d2 m2' d2':Nat} {D D':Option Addr} {a:Aut} {hd:Bool}
theorem yG10b3 {P:Prop}(h:P:=by
 have c1:=b1.cells
 have c2':=b2.cells
 have c3:=b3.cells
 have c4:=b4.cells
 have hx0:=Ext.refl w1
 go_wp2_with (first
  |(go_at_call 58;with_reducible refine (HI.out _ hw1).mono ?_;rintro e w2 ⟨rfl,hx2⟩;have hw2:=hw1.trans hx2)
  |(go_at_call 59;with_reducible refine (HC.out _ hw2).mono ?_;rintro e w3 ⟨rfl,hx3⟩;have hx13:=hx2.trans hx3;have hw3:=hw1.trans hx13)
  |(go_at_call 60;with_reducible refine (HT.out _ hw3).mono ?_;rintro e w4 ⟨rfl,hx4⟩;have hw4:=hw3.trans hx4)
  |(go_at_call 61;with_reducible refine (HF.out _ hw3).mono ?_;rintro e w4 ⟨rfl,hx4⟩;have hw4:=hw3.trans hx4))
 go_ret
 exact⟨zA (by rw [hr.out];try rfl),by first|exact hw4|exact hw3|exact hw2⟩
 ):P:=h
theorem yG10a6 {P:Prop}(h:P:=by
 rw [if_pos rfl] at hr
 go_enter Tryz.func26,Tryz.ntmps26
 go_upto_region 1 with fail
 generalize (((w.alloc (.cells #[.int .i64 s.al,.int .i64 s.st,.slice A n c] 39)).alloc (.cells #[.int .i64 t.al,.int .i64 t.st,.slice C k c2] 39)).alloc (.cells #[.int .i64 p.al,.slice B m1 d1,.slice B' m1' d1'] 27)).alloc (.cells #[.bool true,.int .i64 a.al,.slice D m2 d2,.slice D' m2' d2',.string x] 45)=w1 at *
 exact yG10b3
 ):P:=h
theorem yG10a7 {P:Prop}(h:P:=by
 go_enter Tryz.func26,Tryz.ntmps26
 go_upto_region 1 with fail
 generalize (((w.alloc (.cells #[.int .i64 s.al,.int .i64 s.st,.slice A n c] 39)).alloc (.cells #[.int .i64 t.al,.int .i64 t.st,.slice C k c2] 39)).alloc (.cells #[.int .i64 p.al,.slice B m1 d1,.slice B' m1' d1'] 27)).alloc (.cells #[.bool hd,.int .i64 a.al,.slice D m2 d2,.slice D' m2' d2',.string x] 45)=w1 at *
 exact yG10b3
 ):P:=h
theorem yG10a8 {P:Prop}(h:P:=by
 exact yG10b3
 ):P:=h
set_option maxRecDepth 100000 in
theorem spec_CheckCertificate (h:zO w lo hi A n s)(ht:zO w lo2 hi2 C k t)(hp:zI w lo1 hi1 B m1 B' m1' p)(ha:zI w lo3 hi3 D m2 D' m2' a)(hxs:x.size≤9223372036854775807) :
  Calls Tryz.prog 26 #[.agg #[.int .i64 s.al,.int .i64 s.st,.slice A n c],.agg #[.int .i64 t.al,.int .i64 t.st,.slice C k c2],.agg #[.int .i64 p.al,.slice B m1 d1,.slice B' m1' d1'],.agg #[.bool hd,.int .i64 a.al,.slice D m2 d2,.slice D' m2' d2',.string x]] w fun e w'=>e=.returned (.int .i64 (zaR s t p hd a x))∧Ext w w':=by
 have HI:=hide (fun W (hW:Ext w W)=>zaV (c:=c) (d1:=d1) (d1':=d1') (c2:=c2) (h.ext hW) (hp.ext hW) (ht.ext hW))
 have HT:=hide (fun W (hW:Ext w W)=>zhB (c:=c) (d1:=d1) (d1':=d1') (c2:=c2) (x:=x) (h.ext hW) (ht.ext hW) (hp.ext hW) hxs)
 have HC:=hide (fun W (hW:Ext w W)=>zax _ _ _ _ d2 _ _ d2' hd _ x _ (ha.ext hW) hxs)
 have HF:=hide (fun W (hW:Ext w W)=>zdH (c:=c) (d1:=d1) (d1':=d1') (c2:=c2) (d2:=d2) (d2':=d2') (h.ext hW) (ht.ext hW) (hp.ext hW) (ha.ext hW))
 have hr:=hide (show zaR s t p hd a x=if iface s p t<0 then 1 else if zG hd a x=false then 2 else if hd=false then zcx s t p x
  else if zav s t p a=2 then 3 else if zav s t p a=3 then 4 else if zav s t p a=4 then 5 else 0 from rfl)
 clear h hp ht ha
 have hw1:Ext w ((((w.alloc (.cells #[.int .i64 s.al,.int .i64 s.st,.slice A n c] 39)).alloc (.cells #[.int .i64 t.al,.int .i64 t.st,.slice C k c2] 39)).alloc (.cells #[.int .i64 p.al,.slice B m1 d1,.slice B' m1' d1'] 27)).alloc (.cells #[.bool hd,.int .i64 a.al,.slice D m2 d2,.slice D' m2' d2',.string x] 45)):=((((Ext.refl w).alloc _).alloc _).alloc _).alloc _
 obtain⟨b1,b2,b3,b4⟩:=zeJ (Ext.refl ((((w.alloc (.cells #[.int .i64 s.al,.int .i64 s.st,.slice A n c] 39)).alloc (.cells #[.int .i64 t.al,.int .i64 t.st,.slice C k c2] 39)).alloc (.cells #[.int .i64 p.al,.slice B m1 d1,.slice B' m1' d1'] 27)).alloc (.cells #[.bool hd,.int .i64 a.al,.slice D m2 d2,.slice D' m2' d2',.string x] 45)))
 generalize iface s p t=I at *
 generalize zcx s t p x=R at *
 generalize zav s t p a=F at *
 by_cases hI:I<0
 ·rw [if_pos hI] at hr
  have hv:=hide (rfl:true=true)
  have hv2:=hide (rfl:true=true)
  generalize zG hd a x=cv at *
  exact yG10a7
 have hI1:0≤I:=by omega
 rw [if_neg hI] at hr
 cases hv0:zG hd a x
 ·rw [hv0,if_pos rfl] at hr
  have hv:=hide hv0
  clear hv0
  rw [hv.out] at HC
  exact yG10a7
 rw [hv0,if_neg (by decide)] at hr
 have hv:=hide hv0
 clear hv0
 rw [hv.out] at HC
 cases hd
 ·rw [if_pos rfl] at hr
  go_enter Tryz.func26,Tryz.ntmps26
  go_upto_region 1 with fail
  generalize (((w.alloc (.cells #[.int .i64 s.al,.int .i64 s.st,.slice A n c] 39)).alloc (.cells #[.int .i64 t.al,.int .i64 t.st,.slice C k c2] 39)).alloc (.cells #[.int .i64 p.al,.slice B m1 d1,.slice B' m1' d1'] 27)).alloc (.cells #[.bool false,.int .i64 a.al,.slice D m2 d2,.slice D' m2' d2',.string x] 45)=w1 at *
  exact yG10a8
 rw [if_neg (by decide)] at hr
 by_cases f2:F=2
 ·subst f2
  exact yG10a6
 rw [if_neg f2] at hr
 have g2:(F==2)=false:=by simpa using f2
 by_cases f3:F=3
 ·subst f3
  exact yG10a6
 rw [if_neg f3] at hr
 have g3:(F==3)=false:=by simpa using f3
 by_cases f4:F=4
 ·subst f4
  exact yG10a6
 ·rw [if_neg f4] at hr
  have g4:(F==4)=false:=by simpa using f4
  go_enter Tryz.func26,Tryz.ntmps26
  go_upto_region 1 with fail
  generalize (((w.alloc (.cells #[.int .i64 s.al,.int .i64 s.st,.slice A n c] 39)).alloc (.cells #[.int .i64 t.al,.int .i64 t.st,.slice C k c2] 39)).alloc (.cells #[.int .i64 p.al,.slice B m1 d1,.slice B' m1' d1'] 27)).alloc (.cells #[.bool true,.int .i64 a.al,.slice D m2 d2,.slice D' m2' d2',.string x] 45)=w1 at *
  exact yG10a8
theorem yG10b1 {P:Prop}(h:P:=by
 generalize zcx s t p x=R at *
 go_enter Tryz.func25,Tryz.ntmps25
 go_upto_region 1 with fail
 generalize (((w.alloc (.cells #[.int .i64 s.al,.int .i64 s.st,.slice A n c] 39)).alloc (.cells #[.int .i64 t.al,.int .i64 t.st,.slice C k c2] 39)).alloc (.cells #[.int .i64 p.al,.slice B m1 d1,.slice B' m1' d1'] 27)).alloc (.cells #[.bool false,.int .i64 a.al,.slice D m2 d2,.slice D' m2' d2',.string x] 45)=w1 at *
 have c1:=b1.cells
 have c2':=b2.cells
 have c3:=b3.cells
 have c4:=b4.cells
 have hx0:=Ext.refl w1
 go_wp2_with (first
  |(go_at_call 52;with_reducible refine (HV.out _ hw1).mono ?_;rintro e w2 ⟨rfl,hx2⟩;have hw2:=hw1.trans hx2)
  |(go_at_call 52;with_reducible refine (HV'.out _ hw2).mono ?_;rintro e w3 ⟨rfl,hx3⟩;have hx13:=hx2.trans hx3;have hw3:=hw1.trans hx13)
  |(go_at_call 19;with_reducible refine (HP.out _ hw3).mono ?_;rintro e w4 ⟨rfl,hx4⟩;have hx14:=hx13.trans hx4;have hw4:=hw1.trans hx14)
  |(go_at_call 27;with_reducible refine (HC.out _ hw4).mono ?_;rintro e w5 ⟨rfl,hx5⟩;have hx15:=hx14.trans hx5;have hw5:=hw1.trans hx15;have e6:=Blk.new w5 39 #[.int .i64 s.al,.int .i64 s.st,.slice A n c,.int .i64 t.al,.int .i64 t.st,.slice C k c2];have f6:=(Ext.refl w5).alloc (.cells #[.int .i64 s.al,.int .i64 s.st,.slice A n c,.int .i64 t.al,.int .i64 t.st,.slice C k c2] 39);have hx16:=hx15.trans f6;have hw6:=hw1.trans hx16;obtain⟨l1,l2,hsl⟩:=zdW e6 (HS.out _ hw6) (HS'.out _ hw6))
  |(go_at_call 28;with_reducible refine (zW hsl (HT.out _ hw6) hxs).mono ?_;rw [Ht1.out];rintro e w7 ⟨rfl,hx7⟩;have hx17:=hx16.trans hx7;have hw7:=hw1.trans hx17)
  |(go_at_call 29;with_reducible refine (HB.out _ hw7).mono ?_;rintro e w8 ⟨rfl,hx8⟩;have hx18:=hx17.trans hx8;have hw8:=hw1.trans hx18)
  |(go_at_call 23;with_reducible refine (HF.out _ hw5).mono ?_;rintro e w9 ⟨rfl,hx9⟩;have hw9:=hw5.trans hx9))
 go_ret
 exact⟨zA (by rw [hr.out,hr2.out];try rfl),by first|exact hw9|exact hw8|exact hw7|exact hw5|exact hw4|exact hw3|exact hw2⟩
 ):P:=h
theorem yG10a1 {P:Prop}(h:P:=by
 rw [hb1] at HB
 clear hb1
 exact yG10b1
 ):P:=h
theorem yG10c1 {P:Prop}(h:P:=by
 have c1:=b1.cells
 have c2':=b2.cells
 have c3:=b3.cells
 have c4:=b4.cells
 have hx0:=Ext.refl w1
 go_wp2_with (first
  |(go_at_call 52;with_reducible refine (HV.out _ hw1).mono ?_;rintro e w2 ⟨rfl,hx2⟩;have hw2:=hw1.trans hx2)
  |(go_at_call 52;with_reducible refine (HV'.out _ hw2).mono ?_;rintro e w3 ⟨rfl,hx3⟩;have hx13:=hx2.trans hx3;have hw3:=hw1.trans hx13)
  |(go_at_call 19;with_reducible refine (HP.out _ hw3).mono ?_;rintro e w4 ⟨rfl,hx4⟩;have hx14:=hx13.trans hx4;have hw4:=hw1.trans hx14)
  |(go_at_call 27;with_reducible refine (HC.out _ hw4).mono ?_;rintro e w5 ⟨rfl,hx5⟩;have hx15:=hx14.trans hx5;have hw5:=hw1.trans hx15;have e6:=Blk.new w5 39 #[.int .i64 s.al,.int .i64 s.st,.slice A n c,.int .i64 t.al,.int .i64 t.st,.slice C k c2];have f6:=(Ext.refl w5).alloc (.cells #[.int .i64 s.al,.int .i64 s.st,.slice A n c,.int .i64 t.al,.int .i64 t.st,.slice C k c2] 39);have hx16:=hx15.trans f6;have hw6:=hw1.trans hx16;obtain⟨l1,l2,hsl⟩:=zdW e6 (HS.out _ hw6) (HS'.out _ hw6))
  |(go_at_call 28;with_reducible refine (zW hsl (HT.out _ hw6) hxs).mono ?_;rw [Ht1.out];rintro e w7 ⟨rfl,hx7⟩;have hx17:=hx16.trans hx7;have hw7:=hw1.trans hx17)
  |(go_at_call 29;with_reducible refine (HB.out _ hw7).mono ?_;rintro e w8 ⟨rfl,hx8⟩;have hx18:=hx17.trans hx8;have hw8:=hw1.trans hx18)
  |(go_at_call 23;with_reducible refine (HF.out _ hw5).mono ?_;rintro e w9 ⟨rfl,hx9⟩;have hw9:=hw5.trans hx9))
 go_ret
 exact⟨zA (by rw [hr.out];try rfl),by first|exact hw9|exact hw8|exact hw7|exact hw5|exact hw4|exact hw3|exact hw2⟩
 ):P:=h
theorem yG10b2 {P:Prop}(h:P:=by
 go_enter Tryz.func25,Tryz.ntmps25
 go_upto_region 1 with fail
 generalize (((w.alloc (.cells #[.int .i64 s.al,.int .i64 s.st,.slice A n c] 39)).alloc (.cells #[.int .i64 t.al,.int .i64 t.st,.slice C k c2] 39)).alloc (.cells #[.int .i64 p.al,.slice B m1 d1,.slice B' m1' d1'] 27)).alloc (.cells #[.bool true,.int .i64 a.al,.slice D m2 d2,.slice D' m2' d2',.string x] 45)=w1 at *
 exact yG10c1
 ):P:=h
theorem yG10a2 {P:Prop}(h:P:=by
 rw [if_pos rfl] at hr
 exact yG10b2
 ):P:=h
theorem yG10a3 {P:Prop}(h:P:=by
 go_enter Tryz.func25,Tryz.ntmps25
 go_upto_region 1 with fail
 generalize (((w.alloc (.cells #[.int .i64 s.al,.int .i64 s.st,.slice A n c] 39)).alloc (.cells #[.int .i64 t.al,.int .i64 t.st,.slice C k c2] 39)).alloc (.cells #[.int .i64 p.al,.slice B m1 d1,.slice B' m1' d1'] 27)).alloc (.cells #[.bool hd,.int .i64 a.al,.slice D m2 d2,.slice D' m2' d2',.string x] 45)=w1 at *
 exact yG10c1
 ):P:=h
set_option maxRecDepth 100000 in
theorem impl_CheckCertificate (h:zO w lo hi A n s)(ht:zO w lo2 hi2 C k t)(hp:zI w lo1 hi1 B m1 B' m1' p)(ha:zI w lo3 hi3 D m2 D' m2' a)(hxs:x.size≤9223372036854775807)(hT:Tab w) :
  Calls Tryz.prog 25 #[.agg #[.int .i64 s.al,.int .i64 s.st,.slice A n c],.agg #[.int .i64 t.al,.int .i64 t.st,.slice C k c2],.agg #[.int .i64 p.al,.slice B m1 d1,.slice B' m1' d1'],.agg #[.bool hd,.int .i64 a.al,.slice D m2 d2,.slice D' m2' d2',.string x]] w fun e w'=>e=.returned (.int .i64 (zaR s t p hd a x))∧Ext w w':=by
 have HT:=hide (fun W (hW:Ext w W)=>hT.ext hW)
 have HS:=hide (fun W (hW:Ext w W)=>h.ext hW)
 have HS':=hide (fun W (hW:Ext w W)=>ht.ext hW)
 have HB:=hide (fun W (hW:Ext w W)=>zeo (d:=d1) (d':=d1') (hp.ext hW) hxs)
 have HV:=hide (fun W (hW:Ext w W)=>zam (c:=c) (h.ext hW))
 have HV':=hide (fun W (hW:Ext w W)=>zam (c:=c2) (ht.ext hW))
 have HP:=hide (fun W (hW:Ext w W)=>zC _ _ _ _ d1 _ _ d1' _ _ (hp.ext hW))
 have HC:=hide (fun W (hW:Ext w W)=>zdt _ _ _ _ d2 _ _ d2' hd _ x _ (ha.ext hW) hxs)
 have HF:=hide (fun W (hW:Ext w W)=>zdJ (c:=c) (d1:=d1) (d1':=d1') (c2:=c2) (d2:=d2) (d2':=d2') (h.ext hW) (ht.ext hW) (hp.ext hW) (ha.ext hW) (hT.ext hW))
 have hr:=hide (show zaR s t p hd a x=if iface s p t<0 then 1 else if zG hd a x=false then 2 else if hd=false then zcx s t p x
  else if zav s t p a=2 then 3 else if zav s t p a=3 then 4 else if zav s t p a=4 then 5 else 0 from rfl)
 clear h hp ht ha
 have hw1:Ext w ((((w.alloc (.cells #[.int .i64 s.al,.int .i64 s.st,.slice A n c] 39)).alloc (.cells #[.int .i64 t.al,.int .i64 t.st,.slice C k c2] 39)).alloc (.cells #[.int .i64 p.al,.slice B m1 d1,.slice B' m1' d1'] 27)).alloc (.cells #[.bool hd,.int .i64 a.al,.slice D m2 d2,.slice D' m2' d2',.string x] 45)):=((((Ext.refl w).alloc _).alloc _).alloc _).alloc _
 obtain⟨b1,b2,b3,b4⟩:=zeJ (Ext.refl ((((w.alloc (.cells #[.int .i64 s.al,.int .i64 s.st,.slice A n c] 39)).alloc (.cells #[.int .i64 t.al,.int .i64 t.st,.slice C k c2] 39)).alloc (.cells #[.int .i64 p.al,.slice B m1 d1,.slice B' m1' d1'] 27)).alloc (.cells #[.bool hd,.int .i64 a.al,.slice D m2 d2,.slice D' m2' d2',.string x] 45)))
 generalize zav s t p a=F at *
 cases h1:zk s<;>cases h2:zk t<;>cases h3:zf p
 case true.true.true =>
  rw [if_neg (by rw [zcL,h1,h2,h3];decide)] at hr
  rw [h1] at HV
  rw [h2] at HV'
  rw [h3] at HP
  clear h1 h2 h3
  cases hv0:zG hd a x
  ·rw [hv0,if_pos rfl] at hr
   have hv:=hide hv0
   clear hv0
   rw [hv.out] at HC
   exact yG10a3
  rw [hv0,if_neg (by decide)] at hr
  have hv:=hide hv0
  clear hv0
  rw [hv.out] at HC
  cases hd
  ·rw [if_pos rfl] at hr
   have hr2:=hide (show zcx s t p x=if topB [s,t] x=false then 6 else if zce p x=false then 7 else 0 from rfl)
   cases ht1:topB [s,t] x
   ·rw [ht1,if_pos rfl] at hr2
    have Ht1:=hide ht1
    clear ht1
    exact yG10b1
   rw [ht1,if_neg (by decide)] at hr2
   have Ht1:=hide ht1
   clear ht1
   cases hb1:zce p x
   ·rw [hb1,if_pos rfl] at hr2
    exact yG10a1
   rw [hb1,if_neg (by decide)] at hr2
   exact yG10a1
  rw [if_neg (by decide)] at hr
  by_cases f2:F=2
  ·subst f2
   exact yG10a2
  rw [if_neg f2] at hr
  have g2:(F==2)=false:=by simpa using f2
  by_cases f3:F=3
  ·subst f3
   exact yG10a2
  rw [if_neg f3] at hr
  have g3:(F==3)=false:=by simpa using f3
  by_cases f4:F=4
  ·subst f4
   exact yG10a2
  ·rw [if_neg f4] at hr
   have g4:(F==4)=false:=by simpa using f4
   exact yG10b2
 all_goals
  rw [if_pos (by rw [zcL,h1,h2,h3];rfl)] at hr
  rw [h1] at HV
  rw [h2] at HV'
  rw [h3] at HP
  clear h1 h2 h3
  exact yG10a3
end
set_option maxHeartbeats 2000000
theorem pnx_mod (ms:List Mem) (x l:Nat):pnx ms x l=pnx ms (x % zF ms) l:=by
 induction ms generalizing x with
 |nil=>rfl
 |cons m r ih =>
  rw [zcQ]
  unfold pnx
  have e1:x % (m.1*zF r) / zF r % m.1=x / zF r % m.1:=by
   rw [Nat.mul_comm,Nat.mod_mul_right_div_self,Nat.mod_mod]
  have e2:pnx r (x % (m.1*zF r)) l=pnx r x l:=by
   rw [ih (x % (m.1*zF r)),Nat.mod_mul_left_mod,← ih x]
  rw [e1,e2]
theorem goes_lt {ms:List Mem}(hm:∀ m∈ms,zdM m) {v:List Nat}(hv:∀ l∈v,l<6) {x:Nat}(h:Goes (pnx ms) [0] v x):x<zF ms:=by
 rcases zZ v with rfl|⟨u,l,rfl⟩
 ·have:=h.inv_nil
  have h1:=zeR hm
  simp at this
  omega
 ·obtain⟨n,_,hx⟩:=h.inv
  exact zgW hm (hv l (by simp)) x hx
theorem mem_lt {m:Mem}(hm:zdM m) {v:List Nat}(hv:∀ l∈v,l<6) {q:Nat}(h:Goes m.2 [0] v q):q<m.1:=by
 have key:∀ n (v:List Nat),v.length=n→(∀ l∈v,l<6)→∀ q,Goes m.2 [0] v q→q<m.1:=by
  intro n
  induction n with
  |zero =>
   intro v hl _ q h
   obtain rfl:=List.eq_nil_of_length_eq_zero hl
   have:=h.inv_nil
   have:=hm.1
   simp at *
   omega
  |succ n ih =>
   intro v hl hv q h
   rcases zZ v with rfl|⟨u,l,rfl⟩
   ·simp at hl
   ·obtain⟨q',h1,h2⟩:=h.inv
    exact hm.2 q' l (ih u (by simpa using hl) (fun k hk=>hv k (by simp [hk])) q' h1) (hv l (by simp)) q h2
 exact key _ v rfl hv q h
theorem zeS {m:Mem} {r:List Mem}(hm:zdM m)(hr:∀ m∈r,zdM m):∀ (n:Nat) (v:List Nat),v.length=n→(∀ l∈v,l<6)→∀ x,Goes (pnx (m :: r)) [0] v x↔∃ q y,x=q*zF r+y∧Goes m.2 [0] v q∧Goes (pnx r) [0] v y:=by
 intro n
 induction n with
 |zero =>
  intro v hl _ x
  obtain rfl:=List.eq_nil_of_length_eq_zero hl
  constructor
  ·intro h
   have:=h.inv_nil
   simp at this
   subst this
   exact⟨0,0,by simp,.nil (by simp),.nil (by simp)⟩
  ·rintro ⟨q,y,rfl,h1,h2⟩
   have h1:=h1.inv_nil
   have h2:=h2.inv_nil
   simp at h1 h2
   subst h1;subst h2
   exact .nil (by simp)
 |succ n ih =>
  intro v hl hv x
  rcases zZ v with rfl|⟨u,l,rfl⟩
  ·simp at hl
  have hu:∀ k∈u,k<6:=fun k hk=>hv k (by simp [hk])
  have hl6:l<6:=hv l (by simp)
  have ih:=ih u (by simpa using hl) hu
  have hP:=zeR hr
  have step:∀ q y,Goes m.2 [0] u q→Goes (pnx r) [0] u y→pnx (m :: r) (q*zF r+y) l=(m.2 q l).flatMap fun q'=>(pnx r y l).map fun y'=>q'*zF r+y':=by
   intro q y h1 h2
   have hq:=mem_lt hm hu h1
   have hy:=goes_lt hr hu h2
   show (m.2 ((q*zF r+y) / zF r % m.1) l).flatMap (fun q'=>(pnx r (q*zF r+y) l).map fun y'=>q'*zF r+y')=_
   have e1:(q*zF r+y) / zF r % m.1=q:=by
    rw [Nat.mul_comm,Nat.mul_add_div (by omega),Nat.div_eq_of_lt hy,Nat.add_zero,Nat.mod_eq_of_lt hq]
   have e2:pnx r (q*zF r+y) l=pnx r y l:=by
    rw [pnx_mod r (q*zF r+y),Nat.mul_comm,Nat.mul_add_mod,← pnx_mod]
   rw [e1,e2]
  constructor
  ·intro h
   obtain⟨n',h1,h2⟩:=h.inv
   obtain⟨q,y,rfl,h3,h4⟩:=(ih n').1 h1
   rw [step q y h3 h4] at h2
   simp only [List.mem_flatMap,List.mem_map] at h2
   obtain⟨q',hq',y',hy',rfl⟩:=h2
   exact⟨q',y',rfl,.snoc h3 hq',.snoc h4 hy'⟩
  ·rintro ⟨q',y',rfl,h1,h2⟩
   obtain⟨q,h3,h4⟩:=h1.inv
   obtain⟨y,h5,h6⟩:=h2.inv
   refine .snoc ((ih (q*zF r+y)).2 ⟨q,y,rfl,h3,h5⟩) ?_
   rw [step q y h3 h5]
   simp only [List.mem_flatMap,List.mem_map]
   exact⟨q',h4,y',h6,rfl⟩
def Runs (s:Sys) (v:List Nat):Prop:=∃ q,Goes (cho s) [0] v q
theorem zfI (a:Aut) (v:List Nat) (q:Nat):Goes (aMem a).2 [0] v q↔q=runA a 0 v:=by
 have key:∀ n (v:List Nat),v.length=n→∀ q,Goes (aMem a).2 [0] v q↔q=runA a 0 v:=by
  intro n
  induction n with
  |zero =>
   intro v hl q
   obtain rfl:=List.eq_nil_of_length_eq_zero hl
   constructor
   ·intro h;have:=h.inv_nil;simp at this;subst this;rfl
   ·rintro rfl;exact .nil (by simp [runA])
  |succ n ih =>
   intro v hl q
   rcases zZ v with rfl|⟨u,l,rfl⟩
   ·simp at hl
   rw [zeB]
   have ih:=ih u (by simpa using hl)
   constructor
   ·intro h
    obtain⟨q',h1,h2⟩:=h.inv
    rw [(ih q').1 h1] at h2
    simpa [aMem] using h2
   ·rintro rfl
    exact .snoc ((ih _).2 rfl) (by simp [aMem])
 exact key _ v rfl q
theorem goes_nil (v:List Nat) (y:Nat):Goes (pnx []) [0] v y↔y=0:=by
 have key:∀ n (v:List Nat),v.length=n→∀ y,Goes (pnx []) [0] v y↔y=0:=by
  intro n
  induction n with
  |zero =>
   intro v hl y
   obtain rfl:=List.eq_nil_of_length_eq_zero hl
   exact⟨fun h=>by simpa using h.inv_nil,fun h=>.nil (by simp [h])⟩
  |succ n ih =>
   intro v hl y
   rcases zZ v with rfl|⟨u,l,rfl⟩
   ·simp at hl
   have ih:=ih u (by simpa using hl)
   constructor
   ·intro h
    obtain⟨q',h1,h2⟩:=h.inv
    simpa [pnx] using h2
   ·rintro rfl
    exact .snoc ((ih 0).2 rfl) (by simp [pnx])
 exact key _ v rfl y
theorem goes_two {a p:Aut}(ha:zf a=true)(hp:zf p=true) {v:List Nat}(hv:∀ l∈v,l<6) (y:Nat):Goes (pnx [aMem a,aMem p]) [0] v y↔y=runA a 0 v*p.next.length+runA p 0 v:=by
 have hpo:∀ m∈[aMem p],zdM m:=by simp;exact zbB hp
 have hP:zF [aMem p]=p.next.length:=by simp [zF,zao,aMem]
 have h1:∀ z,Goes (pnx [aMem p]) [0] v z↔z=runA p 0 v:=by
  intro z
  rw [zeS (zbB hp) (by simp) _ v rfl hv]
  constructor
  ·rintro ⟨q,y,rfl,h1,h2⟩
   rw [(goes_nil v y).1 h2,(zfI p v q).1 h1]
   simp [zF,zao]
  ·rintro rfl
   exact⟨runA p 0 v,0,by simp [zF,zao],(zfI p v _).2 rfl,(goes_nil v 0).2 rfl⟩
 rw [zeS (zbB ha) hpo _ v rfl hv,hP]
 constructor
 ·rintro ⟨q,y,rfl,h2,h3⟩
  rw [(zfI a v q).1 h2,(h1 y).1 h3]
 ·rintro rfl
  exact⟨_,_,rfl,(zfI a v _).2 rfl,(h1 _).2 rfl⟩
theorem goes_parts {T:List Mem}(hT:∀ m∈T,zdM m) {v:List Nat}(hv:∀ l∈v,l<6) (g:Nat→Prop):∀ {ss:List Sys},(∀ s∈ss,zdM (sMem s))→((∃ x,Goes (pnx (ss.map sMem++T)) [0] v x∧g (x % zF T))↔(∀ s∈ss,Runs s v)∧∃ y,Goes (pnx T) [0] v y∧g y):=by
 intro ss
 induction ss with
 |nil =>
  intro _
  simp only [List.map_nil,List.nil_append,List.not_mem_nil,false_implies,implies_true,true_and]
  constructor
  ·rintro ⟨x,h,hg⟩
   rw [Nat.mod_eq_of_lt (goes_lt hT hv h)] at hg
   exact⟨x,h,hg⟩
  ·rintro ⟨x,h,hg⟩
   exact⟨x,h,by rwa [Nat.mod_eq_of_lt (goes_lt hT hv h)]⟩
 |cons s r ih =>
  intro hs
  have hs0:=hs s List.mem_cons_self
  have hsr:=fun t ht=>hs t (List.mem_cons_of_mem _ ht)
  have ih:=ih hsr
  have hr:∀ m∈r.map sMem++T,zdM m:=by
   intro m hm
   rcases List.mem_append.1 hm with h|h
   ·obtain⟨t,ht,rfl⟩:=List.mem_map.1 h
    exact hsr t ht
   ·exact hT m h
  have hmod:∀ q y,(q*zF (r.map sMem++T)+y) % zF T=y % zF T:=by
   intro q y
   rw [zbw,← Nat.mul_assoc,Nat.mul_comm,Nat.mul_add_mod]
  rw [List.map_cons,List.cons_append]
  constructor
  ·rintro ⟨x,h,hg⟩
   obtain⟨q,y,rfl,h1,h2⟩:=(zeS hs0 hr _ v rfl hv x).1 h
   rw [hmod] at hg
   obtain⟨h3,h4⟩:=ih.1 ⟨y,h2,hg⟩
   refine⟨fun t ht=>?_,h4⟩
   rcases List.mem_cons.1 ht with rfl|ht
   ·exact⟨q,h1⟩
   ·exact h3 t ht
  ·rintro ⟨h1,h2⟩
   obtain⟨y,h3,h4⟩:=ih.2 ⟨fun t ht=>h1 t (List.mem_cons_of_mem _ ht),h2⟩
   obtain⟨q,hq⟩:=h1 s List.mem_cons_self
   exact⟨q*zF (r.map sMem++T)+y,(zeS hs0 hr _ v rfl hv _).2 ⟨q,y,rfl,hq,h3⟩,by rwa [hmod]⟩
def Breaks (ss:List Sys) (a p:Aut) (v:List Nat):Prop:=(∀ s∈ss,Runs s v)∧accB a (runA a 0 v)=true∧accB p (runA p 0 v)=false
theorem zhg {ss:List Sys} {a p:Aut}(hss:∀ s∈ss,zk s=true)(ha:zf a=true)(hp:zf p=true) :
  vioB ss a p=true↔∃ v,(∀ l∈v,l∈letters (zD ss|||a.al.toNat) 6)∧Breaks ss a p v:=by
 have hsm:∀ s∈ss,zdM (sMem s):=fun s hs=>zei (zcw (hss s hs))
 have hT:∀ m∈[aMem a,aMem p],zdM m:=by simp;exact⟨zbB ha,zbB hp⟩
 have hP:zF [aMem a,aMem p]=a.next.length*p.next.length:=by simp [zF,zao,aMem]
 have a1:=(zj ha).2.1
 have p1:=(zj hp).2.1
 have hgoal:∀ x,brkG a p x=brkG a p (x % zF [aMem a,aMem p]):=by
  intro x
  unfold brkG
  rw [hP,Nat.mod_mul_left_mod,Nat.mul_comm,Nat.mod_mul_right_div_self,Nat.mod_mod]
 have key:∀ v,(∀ l∈v,l<6)→((∃ x,Goes (brkD ss a p) [0] v x∧brkG a p x=true)↔Breaks ss a p v):=by
  intro v hv
  rw [zcZ]
  have h1:=goes_parts hT hv (fun y=>brkG a p y=true) hsm
  have h2:(∃ x,Goes (pnx (mems ss [a,p])) [0] v x∧brkG a p x=true)↔(∃ x,Goes (pnx (ss.map sMem++[aMem a,aMem p])) [0] v x∧brkG a p (x % zF [aMem a,aMem p])=true):=by
   constructor
   ·rintro ⟨x,h,hg⟩;exact⟨x,h,by rw [← hgoal];exact hg⟩
   ·rintro ⟨x,h,hg⟩;exact⟨x,h,by rw [hgoal];exact hg⟩
  rw [h2,h1]
  unfold Breaks
  refine and_congr_right fun _=>?_
  have hra:=zea ha hv (q:=0) (by omega)
  have hrp:=zea hp hv (q:=0) (by omega)
  have e1:(runA a 0 v*p.next.length+runA p 0 v) / p.next.length % a.next.length=runA a 0 v:=by
   rw [Nat.mul_comm,Nat.mul_add_div (by omega),Nat.div_eq_of_lt hrp,Nat.add_zero,Nat.mod_eq_of_lt hra]
  have e2:(runA a 0 v*p.next.length+runA p 0 v) % p.next.length=runA p 0 v:=by
   rw [Nat.mul_comm,Nat.mul_add_mod,Nat.mod_eq_of_lt hrp]
  constructor
  ·rintro ⟨y,hy,hg⟩
   rw [(goes_two ha hp hv y).1 hy] at hg
   unfold brkG at hg
   rw [e1,e2] at hg
   simpa using hg
  ·intro hg
   refine⟨_,(goes_two ha hp hv _).2 rfl,?_⟩
   unfold brkG
   rw [e1,e2]
   simpa using hg
 unfold vioB lostB
 rw [Bool.not_eq_true',@decide_eq_false_iff_not _ (Classical.propDecidable _)]
 constructor
 ·intro hn
  apply Classical.byContradiction
  intro hno
  refine hn fun v hv x hx=>?_
  cases hb:brkG a p x
  ·rfl
  ·exact absurd ⟨v,hv,(key v (fun l hl=>zbP _ l (hv l hl))).1 ⟨x,hx,hb⟩⟩ hno
 ·rintro ⟨v,hv,hB⟩ hl
  obtain⟨x,hx,hg⟩:=(key v (fun l hl=>zbP _ l (hv l hl))).2 hB
  have:=hl v hv x hx
  rw [hg] at this
  cases this
def hidL (s:Sys) (A l:Nat):Prop:=l<6∧s.al.toNat.testBit l=true∧A.testBit l=false
inductive Cl (s:Sys) (p:Aut) (A:Nat) (B:Nat→Nat→Prop):Nat→Nat→Prop
 |base {q i:Nat} (h:B q i):Cl s p A B q i
 |hid {q i l q':Nat} (h:Cl s p A B q i) (hl:hidL s A l) (hq:q'∈cho s q l):Cl s p A B q' (aGo p i l)
def mvB (s:Sys) (p:Aut) (l:Nat) (B:Nat→Nat→Prop):Nat→Nat→Prop:=fun q' j=>∃ q i,B q i∧q'∈cho s q l∧j=aGo p i l
def prR (s:Sys) (p:Aut) (A:Nat):List Nat→Nat→Nat→Prop
 |[]=>Cl s p A (fun q i=>q=0∧i=0)
 |l :: r=>Cl s p A (mvB s p l (prR s p A r))
def PR (s:Sys) (p:Aut) (A:Nat) (v:List Nat):Nat→Nat→Prop:=prR s p A v.reverse
theorem PR_snoc (s:Sys) (p:Aut) (A:Nat) (v:List Nat) (l:Nat):PR s p A (v++[l])=Cl s p A (mvB s p l (PR s p A v)):=by
 unfold PR
 rw [List.reverse_append]
 rfl
def Bad (s:Sys) (p:Aut) (A:Nat) (v:List Nat):Prop:=∃ q i,PR s p A v q i∧accB p i=false
def SafeW (s:Sys) (p:Aut) (A:Nat) (v:List Nat):Prop:=∀ k,k≤v.length→¬ Bad s p A (v.take k)
theorem zhF {s:Sys}(hs:Sml s) {l:Nat}(hb:s.al.toNat.testBit l=true) (set q':Nat):(zbA s.edges set (l:Int)).testBit q'=true↔∃ q,set.testBit q=true∧q'∈cho s q l:=by
 obtain⟨h1,h2,hf,-⟩:=hs
 rw [zcT]
 constructor
 ·rintro ⟨e,he,⟨h3,h4⟩,rfl⟩
  obtain⟨hfr,hle,hto⟩:=hf e he
  refine⟨e.fr.toNat,h4,?_⟩
  unfold cho
  rw [if_pos hb,zJ]
  refine⟨by omega,(zch _ _ _ _).2 ⟨e,he,?_,rfl⟩⟩
  exact⟨by omega,h3⟩
 ·rintro ⟨q,h3,h4⟩
  unfold cho at h4
  rw [if_pos hb,zJ] at h4
  obtain⟨e,he,⟨h5,h6⟩,h7⟩:=(zch _ _ _ _).1 h4.2
  exact⟨e,he,⟨h6,by rw [h5];simpa using h3⟩,h7⟩
theorem zgV {s:Sys}(hs:Sml s) (x:Nat) (l:Int):zbA s.edges x l<65536:=by
 have h1:=zho hs.2.2.1 x l
 have h2:(2:Nat) ^ s.st.toNat≤2 ^ 16:=Nat.pow_le_pow_right (by omega) (by have:=hs.2.1;omega)
 exact Nat.lt_of_lt_of_le h1 h2
def bitS (T:List Nat) (i q:Nat):Prop:=(T.getD i 0).testBit q=true
theorem bitS_lt {T:List Nat} {i q:Nat}(h:bitS T i q):i<T.length:=by
 rcases Nat.lt_or_ge i T.length with h1|h1
 ·exact h1
 ·unfold bitS at h
  rw [List.getD_eq_getElem?_getD,List.getElem?_eq_none h1] at h
  simp at h
theorem zhk {T:List Nat} {j:Nat}(hj:j<T.length) (x i q:Nat):bitS (T.set j (T.getD j 0|||x)) i q↔bitS T i q∨(i=j∧x.testBit q=true):=by
 unfold bitS
 by_cases h:j=i
 ·subst h
  rw [List.getD_eq_getElem?_getD,List.getElem?_set_self hj,Option.getD_some,Nat.testBit_or,Bool.or_eq_true]
  simp
 ·rw [List.getD_eq_getElem?_getD,List.getElem?_set_ne h,← List.getD_eq_getElem?_getD]
  constructor
  ·exact .inl
  ·rintro (h1|⟨h1,-⟩)
   ·exact h1
   ·exact absurd h1.symm h
def zeg (T:List Nat) (n:Nat) (B:Nat→Nat→Prop):Prop:=T.length=n∧(∀ x∈T,x<65536)∧∀ i q,bitS T i q↔B q i
structure ClI (s:Sys) (p:Aut) (A:Nat) (B:Nat→Nat→Prop) (n:Nat) (T:List Nat):Prop where
 len:T.length=n
 lt:∀ x∈T,x<65536
 base:∀ q i,B q i→bitS T i q
 sub:∀ i q,bitS T i q→Cl s p A B q i
def zdC (s:Sys) (p:Aut) (T:List Nat) (i l:Nat):Prop:=∀ q,bitS T i q→∀ q'∈cho s q l,bitS T (aGo p i l) q'
section
variable {s:Sys} {p:Aut} {A n:Nat} {B:Nat→Nat→Prop} {T:List Nat}
theorem zeg.clI (h:zeg T n B):ClI s p A B n T:=⟨h.1,h.2.1,fun q i hb=>(h.2.2 i q).2 hb,fun i q hb=>.base ((h.2.2 i q).1 hb)⟩
theorem zec (h:∀ x∈T,x<65536) (i:Nat):T.getD i 0<65536:=by
 rw [List.getD_eq_getElem?_getD]
 cases h1:T[i]? with
 |none=>simp
 |some x=>exact h x (List.mem_of_getElem? h1)
theorem ClI.step (h:ClI s p A B n T)(hs:Sml s)(hp:zf p=true)(hn:n=p.next.length) {i l:Nat}(hi:i<n)(hl:hidL s A l) :
  ClI s p A B n (T.set (aGo p i l) (T.getD (aGo p i l) 0|||zbA s.edges (T.getD i 0) (l:Int))):=by
 have hj:aGo p i l<T.length:=by rw [h.len,hn];exact zeN hp (by omega) hl.1
 refine⟨by rw [List.length_set];exact h.len,fun x hx=>?_,fun q i' hb=>(zhk hj _ _ _).2 (.inl (h.base q i' hb)),fun i' q hb=>?_⟩
 ·rcases List.mem_or_eq_of_mem_set hx with hx|rfl
  ·exact h.lt x hx
  ·exact Nat.or_lt_two_pow (n:=16) (zec h.lt _) (Nat.lt_of_lt_of_le (zho hs.2.2.1 _ _) (Nat.pow_le_pow_right (by omega) (by have:=hs.2.1;omega)))
 ·rcases (zhk hj _ _ _).1 hb with hb1|⟨rfl,hb1⟩
  ·exact h.sub _ _ hb1
  ·obtain⟨q0,h1,h2⟩:=(zhF hs hl.2.1 _ _).1 hb1
   exact .hid (h.sub _ _ h1) hl h2
theorem closedAt_of (hs:Sml s) {i l:Nat}(hl:hidL s A l)(he:T.getD (aGo p i l) 0|||zbA s.edges (T.getD i 0) (l:Int)=T.getD (aGo p i l) 0):zdC s p T i l:=by
 intro q hq q' hq'
 unfold bitS
 rw [← he,Nat.testBit_or,(zhF hs hl.2.1 _ _).2 ⟨q,hq,hq'⟩,Bool.or_true]
theorem ClI.fin (h:ClI s p A B n T)(hc:∀ i l,i<n→hidL s A l→zdC s p T i l):zeg T n (Cl s p A B):=by
 refine⟨h.len,h.lt,fun i q=>⟨h.sub i q,fun hb=>?_⟩⟩
 induction hb with
 |base hb=>exact h.base _ _ hb
 |hid _ hl hq ih=>exact hc _ _ (by rw [← h.len];exact bitS_lt ih) hl _ ih _ hq
end
def room:List Nat→Nat
 |[]=>0
 |x :: r=>(65536 - x)+room r
theorem room_set:∀ (T:List Nat) (j x:Nat),(T.getD j 0|||x)<65536→room (T.set j (T.getD j 0|||x))≤room T∧(j<T.length→T.getD j 0|||x≠T.getD j 0→room (T.set j (T.getD j 0|||x))<room T)
 |[],j,x,_=>by simp [room]
 |a :: r,0,x,h=>by
  simp only [List.getD_cons_zero,List.set_cons_zero,room] at h ⊢
  have h1:a≤a|||x:=Nat.left_le_or
  refine⟨by omega,fun _ h2=>by omega⟩
 |a :: r,j+1,x,h=>by
  simp only [List.getD_cons_succ,List.set_cons_succ,room,List.length_cons] at h ⊢
  obtain⟨h1,h2⟩:=room_set r j x h
  refine⟨by omega,fun h3 h4=>by have:=h2 (by omega) h4;omega⟩
theorem sub_bit {a b:Nat}(ha:a<64)(hb:b<64) (l:Nat):l∈letters (a - (a&&&b)) 6↔l<6∧a.testBit l=true∧b.testBit l=false:=by
 rw [zJ]
 refine and_congr_right fun hl=>?_
 have key:∀ a<64,∀ b<64,∀ l<6,((a - (a&&&b)).testBit l=true↔a.testBit l=true∧b.testBit l=false):=by decide +kernel
 exact key a ha b hb l hl
theorem stand_bad {s:Sys} {p:Aut} {A n:Nat} {v:List Nat} {T:List Nat}(h:zeg T n (PR s p A v)):Bad s p A v↔∃ i,i<n∧T.getD i 0≠0∧accB p i=false:=by
 constructor
 ·rintro ⟨q,i,h1,h2⟩
  have hb:=(h.2.2 i q).2 h1
  refine⟨i,by rw [← h.1];exact bitS_lt hb,fun e=>?_,h2⟩
  unfold bitS at hb
  rw [e] at hb
  simp at hb
 ·rintro ⟨i,hi,h1,h2⟩
  obtain⟨q,hq⟩:=Nat.exists_testBit_of_ne_zero h1
  exact⟨q,i,(h.2.2 i q).1 hq,h2⟩
theorem stand_start {n:Nat}(hn:1≤n):zeg ((List.replicate n 0).set 0 1) n (fun q i=>q=0∧i=0):=by
 refine⟨by simp,fun x hx=>?_,fun i q=>?_⟩
 ·rcases List.mem_or_eq_of_mem_set hx with hx|rfl
  ·rw [List.mem_replicate] at hx;omega
  ·omega
 ·unfold bitS
  rw [List.getD_eq_getElem?_getD]
  by_cases h:i=0
  ·subst h
   rw [List.getElem?_set_self (by rw [List.length_replicate];omega),Option.getD_some]
   constructor
   ·intro h;exact⟨by cases q with|zero=>rfl|succ q=>simp [Nat.testBit_succ] at h,rfl⟩
   ·rintro ⟨rfl,-⟩;rfl
  ·rw [List.getElem?_set_ne (by omega)]
   constructor
   ·intro h
    cases h1:(List.replicate n 0)[i]? with
    |none=>rw [h1] at h;simp at h
    |some x =>
     have:=List.mem_of_getElem? h1
     rw [List.mem_replicate] at this
     rw [h1,this.2] at h
     simp at h
   ·rintro ⟨_,h1⟩;exact absurd h1 h
set_option maxHeartbeats 4000000
def memT (W:World) (g n:Nat):List Nat:=(List.range n).map fun j=>match W.cell? ⟨g,j,none⟩ with|some (.int _ z)=>z.toNat|_=>0
theorem memT_own {W:World} {base g n c:Nat} {T:List Nat}(h:W.ownsRow base 3 1 (.slice (some ⟨g,0,none⟩) n c) n (nats T))(hT:T.length=n):memT W g n=T:=by
 refine List.ext_getElem? fun j=>?_
 unfold memT
 rw [List.getElem?_map]
 rcases Nat.lt_or_ge j n with hj|hj
 ·rw [List.getElem?_range hj,Option.map_some,h.cellAt j (by omega),show (nats T)[j]?=T[j]?.map (fun x=>Value.int .i64 (x:Nat)) by simp [nats]]
  rw [List.getElem?_eq_getElem (by omega)]
  simp
 ·rw [List.getElem?_eq_none (by simpa using hj),List.getElem?_eq_none (by omega)]
  rfl
theorem zcY {W:World} {base g n c j:Nat} {T:List Nat}(h:W.ownsRow base 3 1 (.slice (some ⟨g,0,none⟩) n c) n (nats T))(hj:j<n):W.cell? ⟨g,j,none⟩=some (.int .i64 (T.getD j 0:Nat)):=by
 have hl:=zeV h
 have hT:T.length=n:=by simpa [nats] using hl
 rw [h.cellAt j (by omega),show (nats T)[j]?=T[j]?.map (fun x=>Value.int .i64 (x:Nat)) by simp [nats],List.getD_eq_getElem?_getD,List.getElem?_eq_getElem (by omega)]
 simp
def RetSets (g N cc base:Nat) (Q:Nat→Nat→Prop) (w:World) (e:Ending) (w':World):Prop:=
 ∃ T':List Nat,e=.returned (.slice (some ⟨g,0,none⟩) N cc)∧w'.ownsRow base 3 1 (.slice (some ⟨g,0,none⟩) N cc) N (nats T')∧zeg T' N Q∧Frm (fun k=>k=g) w w'
section
variable {w:World} {lo hi n c m d m' d' L:Nat} {A B B':Option Addr} {s:Sys} {p:Aut}
set_option maxRecDepth 100000 in
theorem zfo {base g N cc:Nat} {T:List Nat} {Bs:Nat→Nat→Prop}(hS:zO w lo hi A n s)(hP:zI w lo hi B m B' m' p)(hv:zk s=true)(hp:zf p=true)(hL:L<64)(hN:N=p.next.length)
  (hg:hi≤base) (hown:w.ownsRow base 3 1 (.slice (some ⟨g,0,none⟩) N cc) N (nats T)) (hT:zeg T N Bs) :
  Calls Tryz.prog 197 #[.agg #[.int .i64 s.al,.int .i64 s.st,.slice A n c,.int .i64 p.al,.slice B m d,.slice B' m' d',.int .i64 L],.slice (some ⟨g,0,none⟩) N cc] w (RetSets g N cc base (Cl s p L Bs) w):=by
 have hsm:=zcw hv
 obtain⟨ha0,ha1⟩:=zR hv
 obtain⟨al,hal⟩:∃ al:Nat,Hid (s.al=al):=⟨s.al.toNat,by unfold Hid;omega⟩
 have hal64:al<64:=by have:=hal.out;omega
 have hN12:N≤12:=by have:=(zj hp).2.1;omega
 have hg0:=(hown.lt g rfl).1
 have hgw:=(hown.lt g rfl).2
 have HN:=hide hN
 have Han:=hide (zci (a:=al) (b:=L) (by unfold Sm;omega) (by unfold Sm;omega))
 have hle:al&&&L≤al:=Nat.and_le_left
 have hsub:(al:Int) - ((al&&&L:Nat):Int)=((al - (al&&&L):Nat):Int):=by omega
 have Hsub:=hide hsub
 clear hsub
 have Hbit:=hide (fun l=>sub_bit hal64 hL l)
 have hw1:Ext w (w.alloc (.cells #[.int .i64 s.al,.int .i64 s.st,.slice A n c,.int .i64 p.al,.slice B m d,.slice B' m' d',.int .i64 L] 98)):=(Ext.refl _).alloc _
 have b1:=Blk.new w 98 #[.int .i64 s.al,.int .i64 s.st,.slice A n c,.int .i64 p.al,.slice B m d,.slice B' m' d',.int .i64 L]
 have han:=Han.out
 have k1:=b1.cell
 clear hN
 go_enter Tryz.func197,Tryz.ntmps197
 go_upto_region 1 with fail
 generalize w.alloc (.cells #[.int .i64 s.al,.int .i64 s.st,.slice A n c,.int .i64 p.al,.slice B m d,.slice B' m' d',.int .i64 L] 98)=w1 at *
 rw [hal.out] at k1
 go_wp2_with fail
 rw [Hsub.out]
 refine (zU (al - (al&&&L)) (by unfold Sm;omega) _).mono ?_
 rintro e w2 ⟨HA,hc,rfl,hownH,hx2⟩
 have Hbit:=hide (fun l=>(sub_bit hal64 hL l).trans (show l<6∧al.testBit l=true∧L.testBit l=false↔hidL s L l by unfold hidL;rw [hal.out];rfl))
 generalize letters (al - (al&&&L)) 6=hs at *
 have hhl:hs.length≤9223372036854775807:=(Reads.of_own hownH).len
 have hfr2:Frm (fun k=>k=g) w w2:=(hw1.trans hx2).toFrm
 have hown2:=zg hown (hw1.trans hx2)
 have hb2:=b1.ext hx2
 have hcl:=hT.clI (s:=s) (p:=p) (A:=L)
 clear hown hT k1 b1
 go_wp2_with fail
 go_loopw [6] (fun mv wr=>∃ (mb:Bool) (T:List Nat),mv=.bool mb∧Hid (ClI s p L Bs N T)∧Hid (mb=false→∀ i l,i<N→hidL s L l→zdC s p T i l)∧wr.ownsRow base 3 1 (.slice (some ⟨g,0,none⟩) N cc) N (nats T)∧Frm (fun k=>k=g) w2 wr) (fun mv wr=>room (memT wr g N)+(match mv with | .bool true=>1|_=>0))
 case atStart=>exact⟨true,T,rfl,hide hcl,hide (fun h=>by cases h),hown2,Frm.refl _ _⟩
 case round =>
  clear hcl hown2
  obtain⟨mb,T,rfl,hcl,hdone,hown,hfr⟩:=hrel
  have hmem:=hide (memT_own hown hcl.out.len)
  cases mb
  ·have hfin:=hide (hcl.out.fin (hdone.out rfl))
   go_wp2_with fail
   go_ret
   exact⟨T,rfl,hown,hfin.out,hfr2.trans hfr⟩
  ·go_wp2_with fail
   go_loopw [6,7] (fun mv iv wq=>∃ (mb:Bool) (i:Nat) (T1:List Nat),mv=.bool mb∧iv=.int .i64 i∧i≤N∧Hid (ClI s p L Bs N T1)∧Hid (room T1≤room T∧(mb=true→room T1<room T))∧Hid (mb=false→∀ i' l,i'<i→hidL s L l→zdC s p T1 i' l)∧wq.ownsRow base 3 1 (.slice (some ⟨g,0,none⟩) N cc) N (nats T1)∧Frm (fun k=>k=g) w2 wq) (fun _ iv _=>N - (intOf iv).toNat)
   case atStart=>exact⟨false,0,T,rfl,rfl,Nat.zero_le _,hcl,hide ⟨Nat.le_refl _,fun h=>by cases h⟩,hide (fun _ i' l h=>by omega),hown,hfr⟩
   case round =>
    clear hcl hown hfr hdone
    obtain⟨mb,i,T1,rfl,rfl,hi,hcl,hroom,hdone,hown,hfr⟩:=hrel
    by_cases hlt:i<N
    ·have hlt':(i:Int)<(N:Int):=by omega
     go_wp2_with fail
     go_loopw [6,8] (fun mv kv wq=>∃ (mb:Bool) (k:Nat) (T1:List Nat),mv=.bool mb∧kv=.int .i64 k∧k≤hs.length∧Hid (ClI s p L Bs N T1)∧Hid (room T1≤room T∧(mb=true→room T1<room T))∧Hid (mb=false→(∀ i' l,i'<i→hidL s L l→zdC s p T1 i' l)∧∀ (k' l:Nat),k'<k→hs[k']?=some l→zdC s p T1 i l)∧wq.ownsRow base 3 1 (.slice (some ⟨g,0,none⟩) N cc) N (nats T1)∧Frm (fun k=>k=g) w2 wq) (fun _ kv _=>hs.length - (intOf kv).toNat)
     case atStart=>exact⟨mb,0,T1,rfl,rfl,Nat.zero_le _,hcl,hroom,hide (fun h=>⟨hdone.out h,fun k' l h=>by omega⟩),hown,hfr⟩
     case round =>
      clear hcl hroom hdone hown hfr
      obtain⟨mb,k,T1,rfl,rfl,hk,hcl,hroom,hdone,hown,hfr⟩:=hrel
      by_cases hkl:k<hs.length
      ·have hkl':(k:Int)<(hs.length:Int):=by omega
       obtain⟨l,hl⟩:∃ l,hs[k]?=some l:=⟨_,List.getElem?_eq_getElem hkl⟩
       have hhid:=(Hbit.out l).1 (List.mem_of_getElem? hl)
       have hl6:=hhid.1
       have hjN:aGo p i l<N:=by rw [HN.out];exact zeN hp (by rw [← HN.out];exact hlt) hl6
       obtain⟨gh,rfl,hgh,-⟩:=zap hownH (by omega)
       have hownH2:=zbp hownH hfr (fun b h1 e=>by have:=hw1.size;omega)
       have cH:=zcY hownH2 hkl
       rw [List.getD_eq_getElem?_getD,hl,Option.getD_some] at cH
       have CH:∀ W,Ext wr W→W.cell? ⟨gh,k,none⟩=some (.int .i64 (l:Nat)):=fun W hW=>hW.cell_some cH
       have CB:∀ W,Ext wr W→∀ q,W.cell? ⟨w.heap.size,q,none⟩=#[Value.int .i64 s.al,.int .i64 s.st,.slice A n c,.int .i64 p.al,.slice B m d,.slice B' m' d',.int .i64 L][q]?:=fun W hW=>((hb2.frm hfr (by omega)).ext hW).cell
       have CI:∀ W,Ext wr W→W.cell? ⟨g,i,none⟩=some (.int .i64 (T1.getD i 0:Nat)):=fun W hW=>hW.cell_some (zcY hown hlt)
       have HPq:=hide (fun W (hW:Ext wr W)=>((hP.ext (hw1.trans hx2)).frm hfr (fun k h1 h2 e=>by omega)).ext hW)
       have HSq:=hide (fun W (hW:Ext wr W)=>((hS.ext (hw1.trans hx2)).frm hfr (fun k h1 h2 e=>by omega)).ext hW)
       have Hl:=hide hl
       have hww:=Ext.refl wr
       clear hl cH hownH2
       go_wp2_with fail
       go_region_held3 (fun W=>Ext wr W) (first|assumption|(refine Ext.drew ?_;assumption)|(refine Ext.trans ?_ (by assumption);assumption)|(refine Ext.trans ?_ (by assumption);refine Ext.drew ?_;assumption)) (first|(go_at_call 198;refine (zcP (HPq.out _ ?_) hp (by rw [← HN.out];exact hlt) hl6).mono ?_;(first|assumption|(refine Ext.drew ?_;assumption));rintro e w3 ⟨rfl,hx3⟩))
       have hwq3:Ext wr w3:=by assumption
       obtain⟨j,hj⟩:∃ j,Hid (aGo p i l=j):=⟨_,rfl⟩
       rw [hj.out] at hjN ⊢
       have CJ:∀ W,Ext wr W→W.cell? ⟨g,j,none⟩=some (.int .i64 (T1.getD j 0:Nat)):=fun W hW=>hW.cell_some (zcY hown hjN)
       obtain⟨x,hx⟩:∃ x,Hid (T1.getD i 0=x):=⟨_,rfl⟩
       obtain⟨y,hy⟩:∃ y,Hid (T1.getD j 0=y):=⟨_,rfl⟩
       have hx16:x<65536:=by rw [← hx.out];exact zec hcl.out.lt i
       have hy16:y<65536:=by rw [← hy.out];exact zec hcl.out.lt j
       rw [hx.out] at CI
       rw [hy.out] at CJ
       have hst16:zbA s.edges x (l:Int)<65536:=zgV hsm _ _
       obtain⟨z,hz⟩:∃ z,Hid (zbA s.edges x (l:Int)=z):=⟨_,rfl⟩
       rw [hz.out] at hst16
       have hor:=zbE (a:=y) (b:=z) (by unfold Sm;omega) (by unfold Sm;omega)
       have hjN':(j:Int)<(N:Int):=by omega
       obtain⟨u,hu⟩:∃ u,Hid (y|||z=u):=⟨_,rfl⟩
       have hu16:u<65536:=by rw [← hu.out];exact Nat.or_lt_two_pow (n:=16) hy16 hst16
       rw [hu.out] at hor
       go_wp2_with fail
       go_region_held3 (fun W=>Ext wr W) (first|assumption|(refine Ext.drew ?_;assumption)|(refine Ext.trans ?_ (by assumption);assumption)|(refine Ext.trans ?_ (by assumption);refine Ext.drew ?_;assumption)) (first|(go_at_call 129;refine (zef (c:=c) (k0:=s.st.toNat) (HSq.out _ ?_) hsm.2.2.1 (by have:=hsm.2.1;omega) (by unfold Sm;omega)).mono ?_;(first|assumption|(refine Ext.drew ?_;assumption));rw [hz.out];rintro e w4 ⟨rfl,hx4⟩))
       have hwq4:Ext wr w4:=by assumption
       have cJ:=CJ w4 hwq4
       have hfr4:=hfr.ext hwq4
       have hown4:=zg hown hwq4
       have heqT:T1.getD (aGo p i l) 0|||zbA s.edges (T1.getD i 0) (l:Int)=u:=by rw [hj.out,hx.out,hy.out,hz.out,hu.out]
       have HeqT:=hide heqT
       have hstep:=hcl.out.step hsm hp HN.out hlt hhid
       rw [heqT,hj.out] at hstep
       have Hstep:=hide hstep
       clear heqT hstep CH CB CI CJ
       by_cases he:u=y
       ·have Hcl:=hide (closedAt_of (T:=T1) (p:=p) (i:=i) hsm hhid (by rw [HeqT.out,hj.out,hy.out,he]))
        have hne:((u:Int) != (y:Int))=false:=by rw [he];simp
        clear he
        go_wp2_with fail
        go_roundw
        case rel=>exact⟨mb,k+1,T1,rfl,by go_num,by omega,hcl,hroom,hide (fun h=>⟨(hdone.out h).1,fun k' l' hk' hl'=>by
         rcases Nat.lt_or_eq_of_le (Nat.le_of_lt_succ hk') with h1|rfl
         ·exact (hdone.out h).2 k' l' h1 hl'
         ·rw [Hl.out] at hl'
          obtain rfl:=Option.some.inj hl'
          exact Hcl.out⟩),hown4,hfr4⟩
        case measure=>simp [intOf];omega
       ·have hne:((u:Int) != (y:Int))=true:=by simp;omega
        have hrs:=room_set T1 j z (by rw [hy.out,hu.out];exact hu16)
        rw [hy.out,hu.out] at hrs
        have hrs2:=hrs.2 (by rw [hcl.out.len];exact hjN) he
        have Hrs:=hide hrs2
        have hst:=(hown4.stored j (.int .i64 (u:Nat))).1
        rw [← zfK] at hst
        have hfz:=hown4.frozenAt j
        clear hrs hrs2 he
        go_wp2_with fail
        go_roundw
        case rel=>exact⟨true,k+1,T1.set j u,rfl,by go_num,by omega,hide Hstep.out,hide ⟨by have:=Hrs.out;have:=hroom.out.1;omega,fun _=>by have:=Hrs.out;have:=hroom.out.1;omega⟩,hide (fun h=>by cases h),hst,hfr4.trans (Frm.setCell _ g j _)⟩
        case measure=>simp [intOf];omega
      ·go_wp2_with fail
       go_roundw
       case rel=>exact⟨mb,i+1,T1,rfl,by go_num,by omega,hcl,hroom,hide (fun h i' l hi' hl=>by
        rcases Nat.lt_or_eq_of_le (Nat.le_of_lt_succ hi') with h1|rfl
        ·exact (hdone.out h).1 i' l h1 hl
        ·obtain⟨k',hk'⟩:=List.getElem?_of_mem ((Hbit.out l).2 hl)
         exact (hdone.out h).2 k' l (by have:=(List.getElem?_eq_some_iff.1 hk').1;omega) hk'),hown,hfr⟩
       case measure=>simp [intOf];omega
    ·go_wp2_with fail
     have hmem1:=hide (memT_own hown hcl.out.len)
     go_roundw
     case rel=>exact⟨mb,T1,rfl,hcl,hide (fun h i l hi hl=>hdone.out h i l (by omega) hl),hown,hfr⟩
     case measure =>
      rw [hmem.out,hmem1.out]
      have h1:=hroom.out
      cases mb
      ·simp;omega
      ·have:=h1.2 rfl
       simp;omega
end
theorem Frm.grownG {T:Nat→Prop} {w W W':World} {row:Option Nat}(h:Frm T w W)(hg:W.grownBy W' row)(hr:∀ k,row=some k→w.heap.size≤k):Frm T w W':=
 ⟨hg.os.trans h.os,hg.tape.trans h.tape,hg.output.trans h.output,Nat.le_trans h.size hg.size,fun k hk hn=>(hg.block k (Nat.lt_of_lt_of_le hk h.size) (fun e=>by have:=hr k e.symm;omega)).trans (h.block k hk hn)⟩
structure Gr2 (w0 W:World) (G:Nat) (al st:Int) (v:Value) (es:List Edg):Prop where
 blk:Blk W G 39 #[.int .i64 al,.int .i64 st,v]
 own:W.ownsRow w0.heap.size 126 3 v es.length (zo es)
 fr:Frm (fun k=>k=G) w0 W
 hG:G<w0.heap.size
theorem Gr2.ext_ {w0 W W':World} {G:Nat} {al st:Int} {v:Value} {es:List Edg}(h:Gr2 w0 W G al st v es)(hb:Ext W W'):Gr2 w0 W' G al st v es:=⟨h.blk.ext hb,zg h.own hb,h.fr.ext hb,h.hG⟩
theorem Gr2.push {w0 W W':World} {G:Nat} {al st:Int} {v:Value} {es:List Edg} {g cap:Nat} {e:Edg}(h:Gr2 w0 W G al st v es)(hown:W'.ownsRow w0.heap.size 126 3 (.slice (some ⟨g,0,none⟩) (es.length+1) cap) (es.length+1) (zo es++[.int .i64 e.fr,.int .i64 e.le,.int .i64 e.ta]))
  (hg:W.grownBy W' v.ownBlock) :
  Hid (W'.cell? ⟨G,2,none⟩=some v)∧W'.frozen? ⟨G,2,none⟩=false∧Gr2 w0 (W'.setCell ⟨G,2,none⟩ (.slice (some ⟨g,0,none⟩) (es.length+1) cap)) G al st (.slice (some ⟨g,0,none⟩) (es.length+1) cap) (es++[e]):=by
 have hB:Blk W' G 39 #[.int .i64 al,.int .i64 st,v]:=(hg.block G h.blk.lt (fun e=>by have:=(h.own.lt G e.symm).1;have:=h.hG;omega)).trans h.blk
 have hgG:=(hown.lt g rfl).1
 have hG:=h.hG
 have hf:Frm (fun k=>k=G) w0 W':=h.fr.grownG hg (fun k hk=>(h.own.lt k hk).1)
 refine⟨hB.cell 2,hB.frozen 2,⟨by simpa using hB.set_ 2 _,?_,hf.cell rfl _,hG⟩⟩
 have:=ze hown (Frm.setCell W' G 2 (.slice (some ⟨g,0,none⟩) (es.length+1) cap)) (fun b hv hS=>by
  have:g=b:=by simpa [Value.ownBlock] using hv
  omega)
 rw [zbZ]
 simpa [zo] using this
end Go.Proofs.YtndhahednhnnbaaGreatDoor
