/- ChainFault of both, walked. | InterfaceOf of both, walked; printed by gen_cc.py. | AssumptionFault of both, walked; printed by gen_cc.py. | Words: the reference's AlphabetOf, WordWithin, RestrictWord and the program's restrict, walked. | The reference's RestrictWord and the program's restrict, walked. | TraceOfParts of both, walked. | Words run through automata; BreaksProperty of both, walked. | l13Trace, CheckCertificate of both, walked; printed by gen_chk.py. | Plain: what breaks a property under an assumption, told by the runs of the parts. | The safe words of a task, in plain terms: the -/
import Derived.Test.YtndhahednhnnbaaGreatDoorH05
import Derived.Test.YtndhahednhnnbaaGreatDoorH06
import Derived.Test.YtndhahednhnnbaaGreatDoorH01
import Derived.Test.YtndhahednhnnbaaGreatDoorH04
import Derived.Test.YtndhahednhnnbaaGreatDoorH02
import Derived.Lib.SliceRun
import Derived.Deep.DeepCutAuto
namespace Go.Proofs.YtndhahednhnnbaaGreatDoor
open Go Go.RowKit
set_option maxHeartbeats 4000000
theorem zbR {x y z:Sys} {p:Aut}(h:three [x,y,z] p=true):∃ c:Nat,zV [x,y,z] p=(c:Int)∧c≤63:=by
 have h':=h
 simp only [three,Bool.and_eq_true] at h'
 obtain⟨_,hv⟩:=zan h'.2.1
 have vx:=zI (hv x (by simp))
 have vy:=zI (hv y (by simp))
 have vz:=zI (hv z (by simp))
 have vp:=(zi h'.2.2).1
 unfold zV
 rw [h,if_pos rfl]
 obtain⟨a,ha⟩:∃ a:Nat,x.al=a:=⟨x.al.toNat,by omega⟩
 obtain⟨b,hb⟩:∃ a:Nat,y.al=a:=⟨y.al.toNat,by omega⟩
 obtain⟨c,hc⟩:∃ a:Nat,z.al=a:=⟨z.al.toNat,by omega⟩
 obtain⟨d,hd⟩:∃ a:Nat,p.al=a:=⟨p.al.toNat,by omega⟩
 dsimp only
 rw [ha,hb,hc,hd]
 have e1:=Nat.or_lt_two_pow (n:=6) (x:=a) (y:=d) (by omega) (by omega)
 have e2:=Nat.or_lt_two_pow (n:=6) (x:=b) (y:=c) (by omega) (by omega)
 rw [zaO (by unfold Sm;omega) (by unfold Sm;omega),zaO (by unfold Sm;omega) (by unfold Sm;omega),zbt (by unfold Sm;omega) (by unfold Sm;omega)]
 refine⟨_,rfl,?_⟩
 have:=Nat.and_le_left (n:=a|||d) (m:=b|||c)
 omega
noncomputable def zaA (ss:List Sys) (p f g:Aut):Int:=
 if (three ss p&&(zg f&&zg g))=false then 1
 else if (decide (f.al=zV ss p)&&decide (g.al=zaK ss p))=false then 2
 else match ss with
  |[x,y,z]=>if (zax x f p&&zax y g f)=false then 3 else if zar [z] g=false then 4 else 0
  |_=>0
section
variable {lo hi c:Nat} {A:Option Addr} {ss:List Sys} {lo1 hi1 m1 d1 m1' d1':Nat} {B B':Option Addr} {p:Aut} {lo2 hi2 m2 d2 m2' d2':Nat} {C C':Option Addr} {f:Aut} {lo3 hi3 m3 d3 m3' d3':Nat} {D D':Option Addr} {g:Aut} {w:World}
theorem yH07a3 {P:Prop}(h:P:=by
 obtain⟨b,o,s,Bx,nx_,cx,rfl,_,_,hs,e0,e1,e2,hx⟩:=(HS.out w (Ext.refl _)).sys (k:=0) (by omega)
 obtain rfl:x=s:=by have:=hs.out;simpa using this
 obtain⟨By,ny,cy,f0,f1,f2,hy⟩:=(HS.out w (Ext.refl _)).sys2 (k:=1) (s:=y) rfl
 obtain⟨Bz,nz,cz,g0,g1,g2,hz⟩:=(HS.out w (Ext.refl _)).sys2 (k:=2) (s:=z) rfl
 refine⟨b,o,rfl,⟨Bx,By,Bz,nx_,ny,nz,cx,cy,cz,fun W hW=>⟨fun j=>?_,hx.ext hW,hy.ext hW,hz.ext hW⟩⟩⟩
 match j with
 |0=>exact Or.inl (hW.cell_some (by simpa using e0))
 |1=>exact Or.inl (hW.cell_some (by simpa using e1))
 |2=>exact Or.inl (hW.cell_some (by simpa using e2))
 |3=>exact Or.inl (hW.cell_some (by simpa using f0))
 |4=>exact Or.inl (hW.cell_some (by simpa [Nat.add_assoc] using f1))
 |5=>exact Or.inl (hW.cell_some (by simpa [Nat.add_assoc] using f2))
 |6=>exact Or.inl (hW.cell_some (by simpa using g0))
 |7=>exact Or.inl (hW.cell_some (by simpa [Nat.add_assoc] using g1))
 |8=>exact Or.inl (hW.cell_some (by simpa [Nat.add_assoc] using g2))
 |j+9=>exact Or.inr (by omega)
 ):P:=h
theorem yH07a5 {P:Prop}(h:P:=by
 go_enter Tryz.func18,Tryz.ntmps18
 go_upto_region 1 with fail
 generalize (w.alloc (.cells #[.int .i64 p.al,.slice B m1 d1,.slice B' m1' d1'] 27)).alloc (.cells #[.int .i64 f.al,.slice C m2 d2,.slice C' m2' d2',.int .i64 g.al,.slice D m3 d3,.slice D' m3' d3'] 29)=w1 at *
 have c1:=b1.cell
 go_wp2_with (first
  |(go_at_call 40;refine (HCL.out _ hw1).mono ?_;rw [hc1.out,hq2.out];rintro e w2 ⟨rfl,hx2⟩;have hw2:=hw1.trans hx2;have c22:=(b2.ext hx2).cell)
  |(go_at_call 46;with_reducible refine (HF.out _ hw2).mono ?_;rw [V1.out];rintro e w3 ⟨rfl,hx3⟩;have hw3:=hw2.trans hx3;have c32:=(b2.ext (hx2.trans hx3)).cell)
  |(go_at_call 46;with_reducible refine (HG.out _ hw3).mono ?_;rw [V2.out];rintro e w4 ⟨rfl,hx4⟩;have hw4:=hw3.trans hx4;have c42:=(b2.ext (hx2.trans (hx3.trans hx4))).cell))
 go_ret
 exact⟨zE (by rw [hr.out]),hw4⟩
 ):P:=h
theorem yH07a7 {P:Prop}(h:P:=by
 refine uQ ?_
 (refine zb rfl rfl rfl (fun K hK=>?_);go_simp)
 refine (HK1.out _ (hw4.trans hww.drew)).mono ?_
 rintro e w5 ⟨rfl,hy0⟩
 have hy:=hww.drew.trans hy0
 refine hK.out _ _ hy ?_
 refine pT ?_
 refine uQ ?_
 (refine za rfl rfl rfl rfl (fun K hK=>?_))
 go_simp
 refine (HK2.out _ (hw4.trans hy)).mono ?_
 rintro e w6 ⟨rfl,hy1⟩
 have hyy:=hy.trans hy1
 refine hK.out _ _ ?_
 refine pT ?_
 refine uQ ?_
 refine zd ?_
 go_wp2_with fail
 go_ret
 exact⟨zE (by rw [hr.out];rfl),hw1.trans (hx14.trans hyy)⟩
 ):P:=h
theorem yH07a8 {P:Prop}(h:P:=by
 refine uQ ?_
 (refine za rfl rfl rfl rfl (fun K hK=>?_))
 go_simp
 refine (HK3.out _ (hw4.trans (hyy0.trans hww.drew))).mono ?_
 rintro e w7 ⟨rfl,hy2⟩
 have hyy2:=hyy0.trans (hww.drew.trans hy2)
 refine hK.out _ _ ?_
 refine pT ?_
 refine uQ ?_
 refine zd ?_
 go_wp2_with fail
 go_ret
 exact⟨zE (by rw [hr.out];rfl),hw1.trans (hx14.trans hyy2)⟩
 ):P:=h
theorem yH07a9 {P:Prop}(h:P:=by
 have hh:=(HX2.out W (hw4.trans hW)).1
 refine⟨(hh 0).resolve_right (by omega),(hh 1).resolve_right (by omega),(hh 2).resolve_right (by omega),(hh 3).resolve_right (by omega),(hh 4).resolve_right (by omega),(hh 5).resolve_right (by omega),(hh 6).resolve_right (by omega),(hh 7).resolve_right (by omega),(hh 8).resolve_right (by omega)⟩
 ):P:=h
theorem yH07a10 {P:Prop}(h:P:=by
 refine uQ ?_
 (refine zb rfl rfl rfl (fun K hK=>?_);go_simp)
 refine (HK1.out _ (hw4.trans hww.drew)).mono ?_
 rintro e w5 ⟨rfl,hy0⟩
 have hy:=hww.drew.trans hy0
 refine hK.out _ _ hy ?_
 refine pT ?_
 refine uQ ?_
 refine zd ?_
 go_wp2_with fail
 go_ret
 exact⟨zE (by rw [hr.out];rfl),hw1.trans (hx14.trans hy)⟩
 ):P:=h
theorem yH07a11 {P:Prop}(h:P:=by
 have hh:=(HX2.out W (hw4.trans (hyy0.trans hW))).1
 exact⟨(hh 6).resolve_right (by omega),(hh 7).resolve_right (by omega),(hh 8).resolve_right (by omega)⟩
 ):P:=h
set_option maxRecDepth 100000 in
theorem spec_ChainFault {n:Nat}(h:SLAt w lo hi A n ss)(hp:zF w lo1 hi1 B m1 B' m1' p)(hf:zF w lo2 hi2 C m2 C' m2' f)(hg:zF w lo3 hi3 D m3 D' m3' g) :
  Calls Tryz.prog 18 #[.slice A n c,.agg #[.int .i64 p.al,.slice B m1 d1,.slice B' m1' d1'],.agg #[.int .i64 f.al,.slice C m2 d2,.slice C' m2' d2',.int .i64 g.al,.slice D m3 d3,.slice D' m3' d3']] w fun e w'=>e=.returned (.int .i64 (zaA ss p f g))∧Ext w w':=by
 have HS:=hide (fun W (hW:Ext w W)=>h.ext hW)
 have HPa:=hide (fun W (hW:Ext w W)=>hp.ext hW)
 have HFa:=hide (fun W (hW:Ext w W)=>hf.ext hW)
 have HGa:=hide (fun W (hW:Ext w W)=>hg.ext hW)
 have HCL:=hide (fun W (hW:Ext w W)=>zaX (c:=c) (d:=d1) (d':=d1') (h.ext hW) (hp.ext hW))
 have HF:=hide (fun W (hW:Ext w W)=>zx _ _ _ _ d2 _ _ d2' _ _ (hf.ext hW))
 have HG:=hide (fun W (hW:Ext w W)=>zx _ _ _ _ d3 _ _ d3' _ _ (hg.ext hW))
 have hn:=hide h.1
 clear h hp hf hg
 have hw1:Ext w ((w.alloc (.cells #[.int .i64 p.al,.slice B m1 d1,.slice B' m1' d1'] 27)).alloc (.cells #[.int .i64 f.al,.slice C m2 d2,.slice C' m2' d2',.int .i64 g.al,.slice D m3 d3,.slice D' m3' d3'] 29)):=((Ext.refl w).alloc _).alloc _
 obtain⟨b1,b2⟩:=zR (Ext.refl ((w.alloc (.cells #[.int .i64 p.al,.slice B m1 d1,.slice B' m1' d1'] 27)).alloc (.cells #[.int .i64 f.al,.slice C m2 d2,.slice C' m2' d2',.int .i64 g.al,.slice D m3 d3,.slice D' m3' d3'] 29)))
 cases hT:three ss p
 ·have hr:=hide (show zaA ss p f g=1 by unfold zaA;rw [hT];rfl)
  have hc1:=hide (show zV ss p = -1 by unfold zV;rw [hT];rfl)
  clear hT
  go_enter Tryz.func18,Tryz.ntmps18
  go_upto_region 1 with fail
  generalize (w.alloc (.cells #[.int .i64 p.al,.slice B m1 d1,.slice B' m1' d1'] 27)).alloc (.cells #[.int .i64 f.al,.slice C m2 d2,.slice C' m2' d2',.int .i64 g.al,.slice D m3 d3,.slice D' m3' d3'] 29)=w1 at *
  have c1:=b1.cell
  go_wp2_with (go_at_call 40;refine (HCL.out _ hw1).mono ?_;rw [hc1.out];rintro e w2 ⟨rfl,hx2⟩)
  go_ret
  exact⟨zE (by rw [hr.out]),hw1.trans hx2⟩
 ·obtain⟨x,y,z,rfl⟩:=zbq hT
  obtain⟨q1,hq1,hq63⟩:=zbR hT
  obtain rfl:n=3:=hn.out
  have hc1:=hide hq1
  obtain⟨q2,hq2⟩:∃ q2:Int,Hid (zaK [x,y,z] p=q2):=⟨_,rfl⟩
  have hT':=hide hT
  clear hT hq1 hn
  have hneg:¬ (q1:Int)<0:=by omega
  obtain⟨b,o,rfl,HX⟩:∃ b o,A=some ⟨b,o,none⟩∧Hid (∃ (Bx By Bz:Option Addr) (nx_ ny nz cx cy cz:Nat),∀ W,Ext w W→(∀ j,W.cell? ⟨b,o+j,none⟩=#[Value.int .i64 x.al,.int .i64 x.st,.slice Bx nx_ cx,.int .i64 y.al,.int .i64 y.st,.slice By ny cy,.int .i64 z.al,.int .i64 z.st,.slice Bz nz cz][j]?∨9≤j)∧zQ W lo hi Bx nx_ x∧zQ W lo hi By ny y∧zQ W lo hi Bz nz z):=by
   exact yH07a3
  by_cases hV:(zg f&&zg g)=true
  ·simp only [Bool.and_eq_true] at hV
   have V1:=hide hV.1
   have V2:=hide hV.2
   clear hV
   by_cases hE1:f.al=(q1:Int)
   ·by_cases hE2:g.al=q2
    ·-- the letters are right
     have hr:=hide (show zaA [x,y,z] p f g=if (zax x f p&&zax y g f)=false then 3 else if zar [z] g=false then 4 else 0 by
      unfold zaA
      rw [hT'.out,V1.out,V2.out,hc1.out,hq2.out,decide_eq_true hE1,decide_eq_true hE2]
      rfl)
     have He1:=hide hE1
     have He2:=hide hE2
     have hb1:(f.al != (q1:Int))=false:=by simp [hE1]
     have hb2:(g.al != q2)=false:=by simp [hE2]
     clear hE1 hE2
     obtain⟨Bx,By,Bz,nx_,ny,nz,cx,cy,cz,HXw⟩:=HX.out
     have HX2:=hide HXw
     clear HX HXw
     have HK1:=hide (fun W (hW:Ext w W)=>zbX (c:=cx) (d1:=d2) (d1':=d2') (d2:=d1) (d2':=d1') (HX2.out W hW).2.1 (HFa.out W hW) (HPa.out W hW))
     have HK2:=hide (fun W (hW:Ext w W)=>zbX (c:=cy) (d1:=d3) (d1':=d3') (d2:=d2) (d2':=d2') (HX2.out W hW).2.2.1 (HGa.out W hW) (HFa.out W hW))
     have HK3:=hide (fun W (hW:Ext w W)=>zcj (c:=cz) (d2:=d3) (d2':=d3') (HX2.out W hW).2.2.2 (HGa.out W hW))
     generalize zax x f p=u1 at *
     generalize zax y g f=u2 at *
     generalize zar [z] g=u3 at *
     cases u1
     rotate_left
     ·cases u2
      rotate_left
      ·cases u3
       all_goals
        go_enter Tryz.func18,Tryz.ntmps18
        go_upto_region 1 with fail
        generalize (w.alloc (.cells #[.int .i64 p.al,.slice B m1 d1,.slice B' m1' d1'] 27)).alloc (.cells #[.int .i64 f.al,.slice C m2 d2,.slice C' m2' d2',.int .i64 g.al,.slice D m3 d3,.slice D' m3' d3'] 29)=w1 at *
        have c1:=b1.cell
        go_upto_region 6 with (first
         |(go_at_call 40;refine (HCL.out _ hw1).mono ?_;rw [hc1.out,hq2.out];rintro e w2 ⟨rfl,hx2⟩;have hw2:=hw1.trans hx2;have c22:=(b2.ext hx2).cell)
         |(go_at_call 46;with_reducible refine (HF.out _ hw2).mono ?_;rw [V1.out];rintro e w3 ⟨rfl,hx3⟩;have hw3:=hw2.trans hx3;have c32:=(b2.ext (hx2.trans hx3)).cell)
         |(go_at_call 46;with_reducible refine (HG.out _ hw3).mono ?_;rw [V2.out];rintro e w4 ⟨rfl,hx4⟩;have hw4:=hw3.trans hx4;have c42:=(b2.ext (hx2.trans (hx3.trans hx4))).cell))
        have hx14:=hx2.trans (hx3.trans hx4)
        have B1:=b1.ext hx14
        have B2:=b2.ext hx14
        have c6:=B1.cells
        have c8:=B2.cells
        have hcx:∀ W,Ext w4 W→W.cell? ⟨b,o,none⟩=some (.int .i64 x.al)∧W.cell? ⟨b,o+1,none⟩=some (.int .i64 x.st)∧W.cell? ⟨b,o+2,none⟩=some (.slice Bx nx_ cx)∧W.cell? ⟨b,o+3,none⟩=some (.int .i64 y.al)∧W.cell? ⟨b,o+4,none⟩=some (.int .i64 y.st)∧W.cell? ⟨b,o+5,none⟩=some (.slice By ny cy)∧W.cell? ⟨b,o+6,none⟩=some (.int .i64 z.al)∧W.cell? ⟨b,o+7,none⟩=some (.int .i64 z.st)∧W.cell? ⟨b,o+8,none⟩=some (.slice Bz nz cz):=fun W hW=>by
         exact yH07a9
        have hww:=Ext.refl w4
        clear c1 c22 c32 c42 B1 B2
        refine uR (fun X=>Ext w4 X) [16] (OrdU.of [0,1,2,3,4,5,6,7,8,9,10,11,12,13,14,15,16,17,18]) ?_
        refine uQ ?_
        (refine zb rfl rfl rfl (fun K hK=>?_);go_simp)
        refine (HK1.out _ (hw4.trans hww.drew)).mono ?_
        rintro e w5 ⟨rfl,hy0⟩
        have hy:=hww.drew.trans hy0
        refine hK.out _ _ hy ?_
        refine pT ?_
        refine uQ ?_
        (refine za rfl rfl rfl rfl (fun K hK=>?_))
        go_simp
        refine (HK2.out _ (hw4.trans hy)).mono ?_
        rintro e w6 ⟨rfl,hy1⟩
        have hyy:=hy.trans hy1
        refine hK.out _ _ ?_
        refine pT ?_
        refine uQ ?_
        refine zd ?_
        go_wp2_with fail
        have hyy0:=hyy
        clear c6 c8 hcx hww
        go_upto_region 8 with fail
        have hcz:∀ W,Ext w6 W→W.cell? ⟨b,o+6,none⟩=some (.int .i64 z.al)∧W.cell? ⟨b,o+7,none⟩=some (.int .i64 z.st)∧W.cell? ⟨b,o+8,none⟩=some (.slice Bz nz cz):=fun W hW=>by
         exact yH07a11
        have c8:∀ W,Ext w6 W→∀ j,W.cell? ⟨w.heap.size+1,j,none⟩=#[Value.int .i64 f.al,.slice C m2 d2,.slice C' m2' d2',.int .i64 g.al,.slice D m3 d3,.slice D' m3' d3'][j]?:=fun W hW=>(b2.ext (hx14.trans (hyy0.trans hW))).cell
        have hww:=Ext.refl w6
        refine uR (fun X=>Ext w6 X) [5] (OrdU.of [0,1,2,3,4,5,6]) ?_
        exact yH07a8
      ·go_enter Tryz.func18,Tryz.ntmps18
       go_upto_region 1 with fail
       generalize (w.alloc (.cells #[.int .i64 p.al,.slice B m1 d1,.slice B' m1' d1'] 27)).alloc (.cells #[.int .i64 f.al,.slice C m2 d2,.slice C' m2' d2',.int .i64 g.al,.slice D m3 d3,.slice D' m3' d3'] 29)=w1 at *
       have c1:=b1.cell
       go_upto_region 6 with (first
        |(go_at_call 40;refine (HCL.out _ hw1).mono ?_;rw [hc1.out,hq2.out];rintro e w2 ⟨rfl,hx2⟩;have hw2:=hw1.trans hx2;have c22:=(b2.ext hx2).cell)
        |(go_at_call 46;with_reducible refine (HF.out _ hw2).mono ?_;rw [V1.out];rintro e w3 ⟨rfl,hx3⟩;have hw3:=hw2.trans hx3;have c32:=(b2.ext (hx2.trans hx3)).cell)
        |(go_at_call 46;with_reducible refine (HG.out _ hw3).mono ?_;rw [V2.out];rintro e w4 ⟨rfl,hx4⟩;have hw4:=hw3.trans hx4;have c42:=(b2.ext (hx2.trans (hx3.trans hx4))).cell))
       have hx14:=hx2.trans (hx3.trans hx4)
       have B1:=b1.ext hx14
       have B2:=b2.ext hx14
       have c6:=B1.cells
       have c8:=B2.cells
       have hcx:∀ W,Ext w4 W→W.cell? ⟨b,o,none⟩=some (.int .i64 x.al)∧W.cell? ⟨b,o+1,none⟩=some (.int .i64 x.st)∧W.cell? ⟨b,o+2,none⟩=some (.slice Bx nx_ cx)∧W.cell? ⟨b,o+3,none⟩=some (.int .i64 y.al)∧W.cell? ⟨b,o+4,none⟩=some (.int .i64 y.st)∧W.cell? ⟨b,o+5,none⟩=some (.slice By ny cy)∧W.cell? ⟨b,o+6,none⟩=some (.int .i64 z.al)∧W.cell? ⟨b,o+7,none⟩=some (.int .i64 z.st)∧W.cell? ⟨b,o+8,none⟩=some (.slice Bz nz cz):=fun W hW=>by
        exact yH07a9
       have hww:=Ext.refl w4
       clear c1 c22 c32 c42 B1 B2
       refine uR (fun X=>Ext w4 X) [16] (OrdU.of [0,1,2,3,4,5,6,7,8,9,10,11,12,13,14,15,16,17,18]) ?_
       exact yH07a7
     ·go_enter Tryz.func18,Tryz.ntmps18
      go_upto_region 1 with fail
      generalize (w.alloc (.cells #[.int .i64 p.al,.slice B m1 d1,.slice B' m1' d1'] 27)).alloc (.cells #[.int .i64 f.al,.slice C m2 d2,.slice C' m2' d2',.int .i64 g.al,.slice D m3 d3,.slice D' m3' d3'] 29)=w1 at *
      have c1:=b1.cell
      go_upto_region 6 with (first
       |(go_at_call 40;refine (HCL.out _ hw1).mono ?_;rw [hc1.out,hq2.out];rintro e w2 ⟨rfl,hx2⟩;have hw2:=hw1.trans hx2;have c22:=(b2.ext hx2).cell)
       |(go_at_call 46;with_reducible refine (HF.out _ hw2).mono ?_;rw [V1.out];rintro e w3 ⟨rfl,hx3⟩;have hw3:=hw2.trans hx3;have c32:=(b2.ext (hx2.trans hx3)).cell)
       |(go_at_call 46;with_reducible refine (HG.out _ hw3).mono ?_;rw [V2.out];rintro e w4 ⟨rfl,hx4⟩;have hw4:=hw3.trans hx4;have c42:=(b2.ext (hx2.trans (hx3.trans hx4))).cell))
      have hx14:=hx2.trans (hx3.trans hx4)
      have B1:=b1.ext hx14
      have B2:=b2.ext hx14
      have c6:=B1.cells
      have c8:=B2.cells
      have hcx:∀ W,Ext w4 W→W.cell? ⟨b,o,none⟩=some (.int .i64 x.al)∧W.cell? ⟨b,o+1,none⟩=some (.int .i64 x.st)∧W.cell? ⟨b,o+2,none⟩=some (.slice Bx nx_ cx)∧W.cell? ⟨b,o+3,none⟩=some (.int .i64 y.al)∧W.cell? ⟨b,o+4,none⟩=some (.int .i64 y.st)∧W.cell? ⟨b,o+5,none⟩=some (.slice By ny cy)∧W.cell? ⟨b,o+6,none⟩=some (.int .i64 z.al)∧W.cell? ⟨b,o+7,none⟩=some (.int .i64 z.st)∧W.cell? ⟨b,o+8,none⟩=some (.slice Bz nz cz):=fun W hW=>by
       exact yH07a9
      have hww:=Ext.refl w4
      clear c1 c22 c32 c42 B1 B2
      refine uR (fun X=>Ext w4 X) [16] (OrdU.of [0,1,2,3,4,5,6,7,8,9,10,11,12,13,14,15,16,17,18]) ?_
      exact yH07a10
    ·have hr:=hide (show zaA [x,y,z] p f g=2 by
      unfold zaA
      rw [hT'.out,V1.out,V2.out,hc1.out,hq2.out,decide_eq_false hE2]
      simp)
     have hb1:(f.al != (q1:Int))=false:=by simp [hE1]
     have hb2:(g.al != q2)=true:=by simp [hE2]
     clear hE1 hE2
     exact yH07a5
   ·have hr:=hide (show zaA [x,y,z] p f g=2 by
     unfold zaA
     rw [hT'.out,V1.out,V2.out,hc1.out,hq2.out,decide_eq_false hE1]
     simp)
    have hb1:(f.al != (q1:Int))=true:=by simp [hE1]
    clear hE1
    exact yH07a5
  ·have hV':=hide (show (zg f&&zg g)=false by simpa using hV)
   have hr:=hide (show zaA [x,y,z] p f g=1 by unfold zaA;rw [hT'.out,hV'.out];rfl)
   clear hV
   cases h2:zg f<;>cases h3:zg g
   all_goals first
    |(exfalso;have:=hV'.out;rw [h2,h3] at this;cases this;done)
    |(have V1:=hide h2
      have V2:=hide h3
      clear h2 h3
      go_enter Tryz.func18,Tryz.ntmps18
      go_upto_region 1 with fail
      generalize (w.alloc (.cells #[.int .i64 p.al,.slice B m1 d1,.slice B' m1' d1'] 27)).alloc (.cells #[.int .i64 f.al,.slice C m2 d2,.slice C' m2' d2',.int .i64 g.al,.slice D m3 d3,.slice D' m3' d3'] 29)=w1 at *
      have c1:=b1.cell
      go_wp2_with (first
       |(go_at_call 40;refine (HCL.out _ hw1).mono ?_;rw [hc1.out,hq2.out];rintro e w2 ⟨rfl,hx2⟩;have hw2:=hw1.trans hx2;have c22:=(b2.ext hx2).cell)
       |(go_at_call 46;with_reducible refine (HF.out _ hw2).mono ?_;rw [V1.out];rintro e w3 ⟨rfl,hx3⟩;have hw3:=hw2.trans hx3;have c32:=(b2.ext (hx2.trans hx3)).cell)
       |(go_at_call 46;with_reducible refine (HG.out _ hw3).mono ?_;rw [V2.out];rintro e w4 ⟨rfl,hx4⟩;have hw4:=hw3.trans hx4;have c42:=(b2.ext (hx2.trans (hx3.trans hx4))).cell))
      go_ret
      exact⟨zE (by rw [hr.out]),by first|exact hw4|exact hw3⟩)
theorem yH07a6 {P:Prop}(h:P:=by
 go_enter Tryz.func16,Tryz.ntmps16
 go_upto_region 1 with fail
 generalize (w.alloc (.cells #[.int .i64 p.al,.slice B m1 d1,.slice B' m1' d1'] 27)).alloc (.cells #[.int .i64 f.al,.slice C m2 d2,.slice C' m2' d2',.int .i64 g.al,.slice D m3 d3,.slice D' m3' d3'] 29)=w1 at *
 have c1:=b1.cell
 go_wp2_with (first
  |(go_at_call 17;refine (HCL.out _ hw1).mono ?_;rw [hc1.out,hq2.out];rintro e w2 ⟨rfl,hx2⟩;have hw2:=hw1.trans hx2;have c22:=(b2.ext hx2).cell)
  |(go_at_call 19;with_reducible refine (HF.out _ hw2).mono ?_;rw [V1.out];rintro e w3 ⟨rfl,hx3⟩;have hw3:=hw2.trans hx3;have c32:=(b2.ext (hx2.trans hx3)).cell)
  |(go_at_call 19;with_reducible refine (HG.out _ hw3).mono ?_;rw [V2.out];rintro e w4 ⟨rfl,hx4⟩;have hw4:=hw3.trans hx4;have c42:=(b2.ext (hx2.trans (hx3.trans hx4))).cell))
 go_ret
 exact⟨zE (by rw [hr.out]),hw4⟩
 ):P:=h
set_option maxRecDepth 100000 in
theorem impl_ChainFault {n:Nat}(h:SLAt w lo hi A n ss)(hp:zF w lo1 hi1 B m1 B' m1' p)(hf:zF w lo2 hi2 C m2 C' m2' f)(hg:zF w lo3 hi3 D m3 D' m3' g)(hT:Tab w) :
  Calls Tryz.prog 16 #[.slice A n c,.agg #[.int .i64 p.al,.slice B m1 d1,.slice B' m1' d1'],.agg #[.int .i64 f.al,.slice C m2 d2,.slice C' m2' d2',.int .i64 g.al,.slice D m3 d3,.slice D' m3' d3']] w fun e w'=>e=.returned (.int .i64 (zaA ss p f g))∧Ext w w':=by
 have HS:=hide (fun W (hW:Ext w W)=>h.ext hW)
 have HPa:=hide (fun W (hW:Ext w W)=>hp.ext hW)
 have HFa:=hide (fun W (hW:Ext w W)=>hf.ext hW)
 have HGa:=hide (fun W (hW:Ext w W)=>hg.ext hW)
 have HT:=hide (fun W (hW:Ext w W)=>hT.ext hW)
 have HCL:=hide (fun W (hW:Ext w W)=>zeA (c:=c) (d:=d1) (d':=d1') (h.ext hW) (hp.ext hW))
 have HF:=hide (fun W (hW:Ext w W)=>zw _ _ _ _ d2 _ _ d2' _ _ (hf.ext hW))
 have HG:=hide (fun W (hW:Ext w W)=>zw _ _ _ _ d3 _ _ d3' _ _ (hg.ext hW))
 have hn:=hide h.1
 clear h hp hf hg hT
 have hw1:Ext w ((w.alloc (.cells #[.int .i64 p.al,.slice B m1 d1,.slice B' m1' d1'] 27)).alloc (.cells #[.int .i64 f.al,.slice C m2 d2,.slice C' m2' d2',.int .i64 g.al,.slice D m3 d3,.slice D' m3' d3'] 29)):=((Ext.refl w).alloc _).alloc _
 obtain⟨b1,b2⟩:=zR (Ext.refl ((w.alloc (.cells #[.int .i64 p.al,.slice B m1 d1,.slice B' m1' d1'] 27)).alloc (.cells #[.int .i64 f.al,.slice C m2 d2,.slice C' m2' d2',.int .i64 g.al,.slice D m3 d3,.slice D' m3' d3'] 29)))
 cases hT:three ss p
 ·have hr:=hide (show zaA ss p f g=1 by unfold zaA;rw [hT];rfl)
  have hc1:=hide (show zV ss p = -1 by unfold zV;rw [hT];rfl)
  clear hT
  go_enter Tryz.func16,Tryz.ntmps16
  go_upto_region 1 with fail
  generalize (w.alloc (.cells #[.int .i64 p.al,.slice B m1 d1,.slice B' m1' d1'] 27)).alloc (.cells #[.int .i64 f.al,.slice C m2 d2,.slice C' m2' d2',.int .i64 g.al,.slice D m3 d3,.slice D' m3' d3'] 29)=w1 at *
  have c1:=b1.cell
  go_wp2_with (go_at_call 17;refine (HCL.out _ hw1).mono ?_;rw [hc1.out];rintro e w2 ⟨rfl,hx2⟩)
  go_ret
  exact⟨zE (by rw [hr.out]),hw1.trans hx2⟩
 ·obtain⟨x,y,z,rfl⟩:=zbq hT
  obtain⟨q1,hq1,hq63⟩:=zbR hT
  obtain rfl:n=3:=hn.out
  have hc1:=hide hq1
  obtain⟨q2,hq2⟩:∃ q2:Int,Hid (zaK [x,y,z] p=q2):=⟨_,rfl⟩
  have hT':=hide hT
  clear hT hq1 hn
  have hneg:¬ (q1:Int)<0:=by omega
  obtain⟨b,o,rfl,HX⟩:∃ b o,A=some ⟨b,o,none⟩∧Hid (∃ (Bx By Bz:Option Addr) (nx_ ny nz cx cy cz:Nat),∀ W,Ext w W→(∀ j,W.cell? ⟨b,o+j,none⟩=#[Value.int .i64 x.al,.int .i64 x.st,.slice Bx nx_ cx,.int .i64 y.al,.int .i64 y.st,.slice By ny cy,.int .i64 z.al,.int .i64 z.st,.slice Bz nz cz][j]?∨9≤j)∧zQ W lo hi Bx nx_ x∧zQ W lo hi By ny y∧zQ W lo hi Bz nz z):=by
   exact yH07a3
  by_cases hV:(zg f&&zg g)=true
  ·simp only [Bool.and_eq_true] at hV
   have V1:=hide hV.1
   have V2:=hide hV.2
   clear hV
   by_cases hE1:f.al=(q1:Int)
   ·by_cases hE2:g.al=q2
    ·-- the letters are right
     have hr:=hide (show zaA [x,y,z] p f g=if (zax x f p&&zax y g f)=false then 3 else if zar [z] g=false then 4 else 0 by
      unfold zaA
      rw [hT'.out,V1.out,V2.out,hc1.out,hq2.out,decide_eq_true hE1,decide_eq_true hE2]
      rfl)
     have He1:=hide hE1
     have He2:=hide hE2
     have hb1:(f.al != (q1:Int))=false:=by simp [hE1]
     have hb2:(g.al != q2)=false:=by simp [hE2]
     clear hE1 hE2
     obtain⟨Bx,By,Bz,nx_,ny,nz,cx,cy,cz,HXw⟩:=HX.out
     have HX2:=hide HXw
     clear HX HXw
     have HK1:=hide (fun W (hW:Ext w W)=>zbU (c:=cx) (d1:=d2) (d1':=d2') (d2:=d1) (d2':=d1') (HX2.out W hW).2.1 (HFa.out W hW) (HPa.out W hW) (HT.out W hW))
     have HK2:=hide (fun W (hW:Ext w W)=>zbU (c:=cy) (d1:=d3) (d1':=d3') (d2:=d2) (d2':=d2') (HX2.out W hW).2.2.1 (HGa.out W hW) (HFa.out W hW) (HT.out W hW))
     have HK3:=hide (fun W (hW:Ext w W)=>zcb (c:=cz) (d2:=d3) (d2':=d3') (HX2.out W hW).2.2.2 (HGa.out W hW) (HT.out W hW))
     generalize zax x f p=u1 at *
     generalize zax y g f=u2 at *
     generalize zar [z] g=u3 at *
     cases u1
     rotate_left
     ·cases u2
      rotate_left
      ·cases u3
       all_goals
        go_enter Tryz.func16,Tryz.ntmps16
        go_upto_region 1 with fail
        generalize (w.alloc (.cells #[.int .i64 p.al,.slice B m1 d1,.slice B' m1' d1'] 27)).alloc (.cells #[.int .i64 f.al,.slice C m2 d2,.slice C' m2' d2',.int .i64 g.al,.slice D m3 d3,.slice D' m3' d3'] 29)=w1 at *
        have c1:=b1.cell
        go_upto_region 6 with (first
         |(go_at_call 17;refine (HCL.out _ hw1).mono ?_;rw [hc1.out,hq2.out];rintro e w2 ⟨rfl,hx2⟩;have hw2:=hw1.trans hx2;have c22:=(b2.ext hx2).cell)
         |(go_at_call 19;with_reducible refine (HF.out _ hw2).mono ?_;rw [V1.out];rintro e w3 ⟨rfl,hx3⟩;have hw3:=hw2.trans hx3;have c32:=(b2.ext (hx2.trans hx3)).cell)
         |(go_at_call 19;with_reducible refine (HG.out _ hw3).mono ?_;rw [V2.out];rintro e w4 ⟨rfl,hx4⟩;have hw4:=hw3.trans hx4;have c42:=(b2.ext (hx2.trans (hx3.trans hx4))).cell))
        have hx14:=hx2.trans (hx3.trans hx4)
        have B1:=b1.ext hx14
        have B2:=b2.ext hx14
        have c6:=B1.cells
        have c8:=B2.cells
        have hcx:∀ W,Ext w4 W→W.cell? ⟨b,o,none⟩=some (.int .i64 x.al)∧W.cell? ⟨b,o+1,none⟩=some (.int .i64 x.st)∧W.cell? ⟨b,o+2,none⟩=some (.slice Bx nx_ cx)∧W.cell? ⟨b,o+3,none⟩=some (.int .i64 y.al)∧W.cell? ⟨b,o+4,none⟩=some (.int .i64 y.st)∧W.cell? ⟨b,o+5,none⟩=some (.slice By ny cy)∧W.cell? ⟨b,o+6,none⟩=some (.int .i64 z.al)∧W.cell? ⟨b,o+7,none⟩=some (.int .i64 z.st)∧W.cell? ⟨b,o+8,none⟩=some (.slice Bz nz cz):=fun W hW=>by
         exact yH07a9
        have hww:=Ext.refl w4
        clear c1 c22 c32 c42 B1 B2
        refine uR (fun X=>Ext w4 X) [16] (OrdU.of [0,1,2,3,4,5,6,7,8,9,10,11,12,13,14,15,16,17,18,19]) ?_
        refine uQ ?_
        (refine zb rfl rfl rfl (fun K hK=>?_);go_simp)
        refine (HK1.out _ (hw4.trans hww.drew)).mono ?_
        rintro e w5 ⟨rfl,hy0⟩
        have hy:=hww.drew.trans hy0
        refine hK.out _ _ hy ?_
        refine pT ?_
        refine uQ ?_
        (refine za rfl rfl rfl rfl (fun K hK=>?_))
        go_simp
        refine (HK2.out _ (hw4.trans hy)).mono ?_
        rintro e w6 ⟨rfl,hy1⟩
        have hyy:=hy.trans hy1
        refine hK.out _ _ ?_
        refine pT ?_
        refine uQ ?_
        refine zd ?_
        go_wp2_with fail
        have hyy0:=hyy
        clear c6 c8 hcx hww
        go_upto_region 8 with fail
        have hcz:∀ W,Ext w6 W→W.cell? ⟨b,o+6,none⟩=some (.int .i64 z.al)∧W.cell? ⟨b,o+7,none⟩=some (.int .i64 z.st)∧W.cell? ⟨b,o+8,none⟩=some (.slice Bz nz cz):=fun W hW=>by
         exact yH07a11
        have c8:∀ W,Ext w6 W→∀ j,W.cell? ⟨w.heap.size+1,j,none⟩=#[Value.int .i64 f.al,.slice C m2 d2,.slice C' m2' d2',.int .i64 g.al,.slice D m3 d3,.slice D' m3' d3'][j]?:=fun W hW=>(b2.ext (hx14.trans (hyy0.trans hW))).cell
        have hww:=Ext.refl w6
        refine uR (fun X=>Ext w6 X) [5] (OrdU.of [0,1,2,3,4,5,6,7]) ?_
        exact yH07a8
      ·go_enter Tryz.func16,Tryz.ntmps16
       go_upto_region 1 with fail
       generalize (w.alloc (.cells #[.int .i64 p.al,.slice B m1 d1,.slice B' m1' d1'] 27)).alloc (.cells #[.int .i64 f.al,.slice C m2 d2,.slice C' m2' d2',.int .i64 g.al,.slice D m3 d3,.slice D' m3' d3'] 29)=w1 at *
       have c1:=b1.cell
       go_upto_region 6 with (first
        |(go_at_call 17;refine (HCL.out _ hw1).mono ?_;rw [hc1.out,hq2.out];rintro e w2 ⟨rfl,hx2⟩;have hw2:=hw1.trans hx2;have c22:=(b2.ext hx2).cell)
        |(go_at_call 19;with_reducible refine (HF.out _ hw2).mono ?_;rw [V1.out];rintro e w3 ⟨rfl,hx3⟩;have hw3:=hw2.trans hx3;have c32:=(b2.ext (hx2.trans hx3)).cell)
        |(go_at_call 19;with_reducible refine (HG.out _ hw3).mono ?_;rw [V2.out];rintro e w4 ⟨rfl,hx4⟩;have hw4:=hw3.trans hx4;have c42:=(b2.ext (hx2.trans (hx3.trans hx4))).cell))
       have hx14:=hx2.trans (hx3.trans hx4)
       have B1:=b1.ext hx14
       have B2:=b2.ext hx14
       have c6:=B1.cells
       have c8:=B2.cells
       have hcx:∀ W,Ext w4 W→W.cell? ⟨b,o,none⟩=some (.int .i64 x.al)∧W.cell? ⟨b,o+1,none⟩=some (.int .i64 x.st)∧W.cell? ⟨b,o+2,none⟩=some (.slice Bx nx_ cx)∧W.cell? ⟨b,o+3,none⟩=some (.int .i64 y.al)∧W.cell? ⟨b,o+4,none⟩=some (.int .i64 y.st)∧W.cell? ⟨b,o+5,none⟩=some (.slice By ny cy)∧W.cell? ⟨b,o+6,none⟩=some (.int .i64 z.al)∧W.cell? ⟨b,o+7,none⟩=some (.int .i64 z.st)∧W.cell? ⟨b,o+8,none⟩=some (.slice Bz nz cz):=fun W hW=>by
        exact yH07a9
       have hww:=Ext.refl w4
       clear c1 c22 c32 c42 B1 B2
       refine uR (fun X=>Ext w4 X) [16] (OrdU.of [0,1,2,3,4,5,6,7,8,9,10,11,12,13,14,15,16,17,18,19]) ?_
       exact yH07a7
     ·go_enter Tryz.func16,Tryz.ntmps16
      go_upto_region 1 with fail
      generalize (w.alloc (.cells #[.int .i64 p.al,.slice B m1 d1,.slice B' m1' d1'] 27)).alloc (.cells #[.int .i64 f.al,.slice C m2 d2,.slice C' m2' d2',.int .i64 g.al,.slice D m3 d3,.slice D' m3' d3'] 29)=w1 at *
      have c1:=b1.cell
      go_upto_region 6 with (first
       |(go_at_call 17;refine (HCL.out _ hw1).mono ?_;rw [hc1.out,hq2.out];rintro e w2 ⟨rfl,hx2⟩;have hw2:=hw1.trans hx2;have c22:=(b2.ext hx2).cell)
       |(go_at_call 19;with_reducible refine (HF.out _ hw2).mono ?_;rw [V1.out];rintro e w3 ⟨rfl,hx3⟩;have hw3:=hw2.trans hx3;have c32:=(b2.ext (hx2.trans hx3)).cell)
       |(go_at_call 19;with_reducible refine (HG.out _ hw3).mono ?_;rw [V2.out];rintro e w4 ⟨rfl,hx4⟩;have hw4:=hw3.trans hx4;have c42:=(b2.ext (hx2.trans (hx3.trans hx4))).cell))
      have hx14:=hx2.trans (hx3.trans hx4)
      have B1:=b1.ext hx14
      have B2:=b2.ext hx14
      have c6:=B1.cells
      have c8:=B2.cells
      have hcx:∀ W,Ext w4 W→W.cell? ⟨b,o,none⟩=some (.int .i64 x.al)∧W.cell? ⟨b,o+1,none⟩=some (.int .i64 x.st)∧W.cell? ⟨b,o+2,none⟩=some (.slice Bx nx_ cx)∧W.cell? ⟨b,o+3,none⟩=some (.int .i64 y.al)∧W.cell? ⟨b,o+4,none⟩=some (.int .i64 y.st)∧W.cell? ⟨b,o+5,none⟩=some (.slice By ny cy)∧W.cell? ⟨b,o+6,none⟩=some (.int .i64 z.al)∧W.cell? ⟨b,o+7,none⟩=some (.int .i64 z.st)∧W.cell? ⟨b,o+8,none⟩=some (.slice Bz nz cz):=fun W hW=>by
       exact yH07a9
      have hww:=Ext.refl w4
      clear c1 c22 c32 c42 B1 B2
      refine uR (fun X=>Ext w4 X) [16] (OrdU.of [0,1,2,3,4,5,6,7,8,9,10,11,12,13,14,15,16,17,18,19]) ?_
      exact yH07a10
    ·have hr:=hide (show zaA [x,y,z] p f g=2 by
      unfold zaA
      rw [hT'.out,V1.out,V2.out,hc1.out,hq2.out,decide_eq_false hE2]
      simp)
     have hb1:(f.al != (q1:Int))=false:=by simp [hE1]
     have hb2:(g.al != q2)=true:=by simp [hE2]
     clear hE1 hE2
     exact yH07a6
   ·have hr:=hide (show zaA [x,y,z] p f g=2 by
     unfold zaA
     rw [hT'.out,V1.out,V2.out,hc1.out,hq2.out,decide_eq_false hE1]
     simp)
    have hb1:(f.al != (q1:Int))=true:=by simp [hE1]
    clear hE1
    exact yH07a6
  ·have hV':=hide (show (zg f&&zg g)=false by simpa using hV)
   have hr:=hide (show zaA [x,y,z] p f g=1 by unfold zaA;rw [hT'.out,hV'.out];rfl)
   clear hV
   cases h2:zg f<;>cases h3:zg g
   all_goals first
    |(exfalso;have:=hV'.out;rw [h2,h3] at this;cases this;done)
    |(have V1:=hide h2
      have V2:=hide h3
      clear h2 h3
      go_enter Tryz.func16,Tryz.ntmps16
      go_upto_region 1 with fail
      generalize (w.alloc (.cells #[.int .i64 p.al,.slice B m1 d1,.slice B' m1' d1'] 27)).alloc (.cells #[.int .i64 f.al,.slice C m2 d2,.slice C' m2' d2',.int .i64 g.al,.slice D m3 d3,.slice D' m3' d3'] 29)=w1 at *
      have c1:=b1.cell
      go_wp2_with (first
       |(go_at_call 17;refine (HCL.out _ hw1).mono ?_;rw [hc1.out,hq2.out];rintro e w2 ⟨rfl,hx2⟩;have hw2:=hw1.trans hx2;have c22:=(b2.ext hx2).cell)
       |(go_at_call 19;with_reducible refine (HF.out _ hw2).mono ?_;rw [V1.out];rintro e w3 ⟨rfl,hx3⟩;have hw3:=hw2.trans hx3;have c32:=(b2.ext (hx2.trans hx3)).cell)
       |(go_at_call 19;with_reducible refine (HG.out _ hw3).mono ?_;rw [V2.out];rintro e w4 ⟨rfl,hx4⟩;have hw4:=hw3.trans hx4;have c42:=(b2.ext (hx2.trans (hx3.trans hx4))).cell))
      go_ret
      exact⟨zE (by rw [hr.out]),by first|exact hw4|exact hw3⟩)
end
set_option maxHeartbeats 4000000
def iface (s:Sys) (p:Aut) (t:Sys):Int:=if (zj s&&(zg p&&zj t))=true then (((s.al.toNat|||p.al.toNat)&&&t.al.toNat:Nat):Int) else -1
section
variable {lo hi n c:Nat} {A:Option Addr} {s:Sys} {lo1 hi1 m1 d1 m1' d1':Nat} {B B':Option Addr} {p:Aut} {lo2 hi2 k c2:Nat} {C:Option Addr} {t:Sys} {w:World}
set_option maxRecDepth 100000 in
theorem zbL (h:zQ w lo hi A n s)(hp:zF w lo1 hi1 B m1 B' m1' p)(ht:zQ w lo2 hi2 C k t) :
  Calls Tryz.prog 58 #[.agg #[.int .i64 s.al,.int .i64 s.st,.slice A n c],.agg #[.int .i64 p.al,.slice B m1 d1,.slice B' m1' d1'],.agg #[.int .i64 t.al,.int .i64 t.st,.slice C k c2]] w fun e w'=>e=.returned (.int .i64 (iface s p t))∧Ext w w':=by
 have HS:=hide (fun W (hW:Ext w W)=>zaf (c:=c) (h.ext hW))
 have HP:=hide (fun W (hW:Ext w W)=>zx _ _ _ _ d1 _ _ d1' _ _ (hp.ext hW))
 have HT:=hide (fun W (hW:Ext w W)=>zaf (c:=c2) (ht.ext hW))
 clear h hp ht
 cases h1:zj s<;>cases h2:zg p<;>cases h3:zj t
 case true.true.true =>
  have H1:=hide h1
  have H2:=hide h2
  have H3:=hide h3
  have v1:=zI h1
  have v2:=(zi h2).1
  have v3:=zI h3
  obtain⟨a,ha⟩:∃ a:Nat,Hid (s.al=a):=⟨s.al.toNat,by unfold Hid;omega⟩
  obtain⟨b,hb⟩:∃ a:Nat,Hid (p.al=a):=⟨p.al.toNat,by unfold Hid;omega⟩
  obtain⟨d,hd⟩:∃ a:Nat,Hid (t.al=a):=⟨t.al.toNat,by unfold Hid;omega⟩
  have hr:=hide (show iface s p t=((((a|||b)&&&d:Nat)):Int) by unfold iface;rw [h1,h2,h3,ha.out,hb.out,hd.out];rfl)
  rw [ha.out] at v1
  rw [hb.out] at v2
  rw [hd.out] at v3
  have a6:a≤63:=by omega
  have b6:b≤63:=by omega
  have d6:d≤63:=by omega
  have o6:=Nat.or_lt_two_pow (n:=6) (x:=a) (y:=b) (by omega) (by omega)
  have ho:=zaO (a:=a) (b:=b) (by unfold Sm;omega) (by unfold Sm;omega)
  have hn:=zbt (a:=a|||b) (b:=d) (by unfold Sm;omega) (by unfold Sm;omega)
  clear h1 h2 h3 v1 v2 v3 o6
  rw [ha.out] at HS ⊢
  rw [hb.out] at HP ⊢
  rw [hd.out] at HT ⊢
  have hw1:Ext w (((w.alloc (.cells #[.int .i64 a,.int .i64 s.st,.slice A n c] 39)).alloc (.cells #[.int .i64 b,.slice B m1 d1,.slice B' m1' d1'] 27)).alloc (.cells #[.int .i64 d,.int .i64 t.st,.slice C k c2] 39)):=(((Ext.refl w).alloc _).alloc _).alloc _
  obtain⟨b1,b2,b3⟩:=zZ (Ext.refl (((w.alloc (.cells #[.int .i64 a,.int .i64 s.st,.slice A n c] 39)).alloc (.cells #[.int .i64 b,.slice B m1 d1,.slice B' m1' d1'] 27)).alloc (.cells #[.int .i64 d,.int .i64 t.st,.slice C k c2] 39)))
  go_enter Tryz.func58,Tryz.ntmps58
  go_upto_region 1 with fail
  generalize ((w.alloc (.cells #[.int .i64 a,.int .i64 s.st,.slice A n c] 39)).alloc (.cells #[.int .i64 b,.slice B m1 d1,.slice B' m1' d1'] 27)).alloc (.cells #[.int .i64 d,.int .i64 t.st,.slice C k c2] 39)=w1 at *
  have c1:=b1.cell
  go_wp2_with (first
   |(go_at_call 112;with_reducible refine (HS.out _ hw1).mono ?_;rw [H1.out];rintro e w2 ⟨rfl,hx2⟩;have hw2:=hw1.trans hx2;have c2:=(b2.ext hx2).cell)
   |(go_at_call 46;with_reducible refine (HP.out _ hw2).mono ?_;rw [H2.out];rintro e w3 ⟨rfl,hx3⟩;have hw3:=hw2.trans hx3;have c3:=(b3.ext (hx2.trans hx3)).cell)
   |(go_at_call 112;with_reducible refine (HT.out _ hw3).mono ?_;rw [H3.out];rintro e w4 ⟨rfl,hx4⟩;have hw4:=hw3.trans hx4;have k1:=(b1.ext (hx2.trans (hx3.trans hx4))).cell;have k2:=(b2.ext (hx2.trans (hx3.trans hx4))).cell;have k3:=(b3.ext (hx2.trans (hx3.trans hx4))).cell))
  go_ret
  exact⟨zE (by rw [hr.out]),hw4⟩
 all_goals
  have hr:=hide (show iface s p t = -1 by unfold iface;rw [h1,h2,h3];rfl)
  have H1:=hide h1
  have H2:=hide h2
  have H3:=hide h3
  clear h1 h2 h3
  have hw1:Ext w (((w.alloc (.cells #[.int .i64 s.al,.int .i64 s.st,.slice A n c] 39)).alloc (.cells #[.int .i64 p.al,.slice B m1 d1,.slice B' m1' d1'] 27)).alloc (.cells #[.int .i64 t.al,.int .i64 t.st,.slice C k c2] 39)):=(((Ext.refl w).alloc _).alloc _).alloc _
  obtain⟨b1,b2,b3⟩:=zZ (Ext.refl (((w.alloc (.cells #[.int .i64 s.al,.int .i64 s.st,.slice A n c] 39)).alloc (.cells #[.int .i64 p.al,.slice B m1 d1,.slice B' m1' d1'] 27)).alloc (.cells #[.int .i64 t.al,.int .i64 t.st,.slice C k c2] 39)))
  go_enter Tryz.func58,Tryz.ntmps58
  go_upto_region 1 with fail
  generalize ((w.alloc (.cells #[.int .i64 s.al,.int .i64 s.st,.slice A n c] 39)).alloc (.cells #[.int .i64 p.al,.slice B m1 d1,.slice B' m1' d1'] 27)).alloc (.cells #[.int .i64 t.al,.int .i64 t.st,.slice C k c2] 39)=w1 at *
  have c1:=b1.cell
  go_wp2_with (first
   |(go_at_call 112;with_reducible refine (HS.out _ hw1).mono ?_;rw [H1.out];rintro e w2 ⟨rfl,hx2⟩;have hw2:=hw1.trans hx2;have c2:=(b2.ext hx2).cell)
   |(go_at_call 46;with_reducible refine (HP.out _ hw2).mono ?_;rw [H2.out];rintro e w3 ⟨rfl,hx3⟩;have hw3:=hw2.trans hx3;have c3:=(b3.ext (hx2.trans hx3)).cell)
   |(go_at_call 112;with_reducible refine (HT.out _ hw3).mono ?_;rw [H3.out];rintro e w4 ⟨rfl,hx4⟩;have hw4:=hw3.trans hx4))
  go_ret
  exact⟨zE (by rw [hr.out]),by first|exact hw4|exact hw3|exact hw2⟩
set_option maxRecDepth 100000 in
theorem zeU (h:zQ w lo hi A n s)(hp:zF w lo1 hi1 B m1 B' m1' p)(ht:zQ w lo2 hi2 C k t) :
  Calls Tryz.prog 30 #[.agg #[.int .i64 s.al,.int .i64 s.st,.slice A n c],.agg #[.int .i64 p.al,.slice B m1 d1,.slice B' m1' d1'],.agg #[.int .i64 t.al,.int .i64 t.st,.slice C k c2]] w fun e w'=>e=.returned (.int .i64 (iface s p t))∧Ext w w':=by
 have HS:=hide (fun W (hW:Ext w W)=>zaL (c:=c) (h.ext hW))
 have HP:=hide (fun W (hW:Ext w W)=>zw _ _ _ _ d1 _ _ d1' _ _ (hp.ext hW))
 have HT:=hide (fun W (hW:Ext w W)=>zaL (c:=c2) (ht.ext hW))
 clear h hp ht
 cases h1:zj s<;>cases h2:zg p<;>cases h3:zj t
 case true.true.true =>
  have H1:=hide h1
  have H2:=hide h2
  have H3:=hide h3
  have v1:=zI h1
  have v2:=(zi h2).1
  have v3:=zI h3
  obtain⟨a,ha⟩:∃ a:Nat,Hid (s.al=a):=⟨s.al.toNat,by unfold Hid;omega⟩
  obtain⟨b,hb⟩:∃ a:Nat,Hid (p.al=a):=⟨p.al.toNat,by unfold Hid;omega⟩
  obtain⟨d,hd⟩:∃ a:Nat,Hid (t.al=a):=⟨t.al.toNat,by unfold Hid;omega⟩
  have hr:=hide (show iface s p t=((((a|||b)&&&d:Nat)):Int) by unfold iface;rw [h1,h2,h3,ha.out,hb.out,hd.out];rfl)
  rw [ha.out] at v1
  rw [hb.out] at v2
  rw [hd.out] at v3
  have a6:a≤63:=by omega
  have b6:b≤63:=by omega
  have d6:d≤63:=by omega
  have o6:=Nat.or_lt_two_pow (n:=6) (x:=a) (y:=b) (by omega) (by omega)
  have ho:=zaO (a:=a) (b:=b) (by unfold Sm;omega) (by unfold Sm;omega)
  have hn:=zbt (a:=a|||b) (b:=d) (by unfold Sm;omega) (by unfold Sm;omega)
  clear h1 h2 h3 v1 v2 v3 o6
  rw [ha.out] at HS ⊢
  rw [hb.out] at HP ⊢
  rw [hd.out] at HT ⊢
  have hw1:Ext w (((w.alloc (.cells #[.int .i64 a,.int .i64 s.st,.slice A n c] 39)).alloc (.cells #[.int .i64 b,.slice B m1 d1,.slice B' m1' d1'] 27)).alloc (.cells #[.int .i64 d,.int .i64 t.st,.slice C k c2] 39)):=(((Ext.refl w).alloc _).alloc _).alloc _
  obtain⟨b1,b2,b3⟩:=zZ (Ext.refl (((w.alloc (.cells #[.int .i64 a,.int .i64 s.st,.slice A n c] 39)).alloc (.cells #[.int .i64 b,.slice B m1 d1,.slice B' m1' d1'] 27)).alloc (.cells #[.int .i64 d,.int .i64 t.st,.slice C k c2] 39)))
  go_enter Tryz.func30,Tryz.ntmps30
  go_upto_region 1 with fail
  generalize ((w.alloc (.cells #[.int .i64 a,.int .i64 s.st,.slice A n c] 39)).alloc (.cells #[.int .i64 b,.slice B m1 d1,.slice B' m1' d1'] 27)).alloc (.cells #[.int .i64 d,.int .i64 t.st,.slice C k c2] 39)=w1 at *
  have c1:=b1.cell
  go_wp2_with (first
   |(go_at_call 52;with_reducible refine (HS.out _ hw1).mono ?_;rw [H1.out];rintro e w2 ⟨rfl,hx2⟩;have hw2:=hw1.trans hx2;have c2:=(b2.ext hx2).cell)
   |(go_at_call 19;with_reducible refine (HP.out _ hw2).mono ?_;rw [H2.out];rintro e w3 ⟨rfl,hx3⟩;have hw3:=hw2.trans hx3;have c3:=(b3.ext (hx2.trans hx3)).cell)
   |(go_at_call 52;with_reducible refine (HT.out _ hw3).mono ?_;rw [H3.out];rintro e w4 ⟨rfl,hx4⟩;have hw4:=hw3.trans hx4;have k1:=(b1.ext (hx2.trans (hx3.trans hx4))).cell;have k2:=(b2.ext (hx2.trans (hx3.trans hx4))).cell;have k3:=(b3.ext (hx2.trans (hx3.trans hx4))).cell))
  go_ret
  exact⟨zE (by rw [hr.out]),hw4⟩
 all_goals
  have hr:=hide (show iface s p t = -1 by unfold iface;rw [h1,h2,h3];rfl)
  have H1:=hide h1
  have H2:=hide h2
  have H3:=hide h3
  clear h1 h2 h3
  have hw1:Ext w (((w.alloc (.cells #[.int .i64 s.al,.int .i64 s.st,.slice A n c] 39)).alloc (.cells #[.int .i64 p.al,.slice B m1 d1,.slice B' m1' d1'] 27)).alloc (.cells #[.int .i64 t.al,.int .i64 t.st,.slice C k c2] 39)):=(((Ext.refl w).alloc _).alloc _).alloc _
  obtain⟨b1,b2,b3⟩:=zZ (Ext.refl (((w.alloc (.cells #[.int .i64 s.al,.int .i64 s.st,.slice A n c] 39)).alloc (.cells #[.int .i64 p.al,.slice B m1 d1,.slice B' m1' d1'] 27)).alloc (.cells #[.int .i64 t.al,.int .i64 t.st,.slice C k c2] 39)))
  go_enter Tryz.func30,Tryz.ntmps30
  go_upto_region 1 with fail
  generalize ((w.alloc (.cells #[.int .i64 s.al,.int .i64 s.st,.slice A n c] 39)).alloc (.cells #[.int .i64 p.al,.slice B m1 d1,.slice B' m1' d1'] 27)).alloc (.cells #[.int .i64 t.al,.int .i64 t.st,.slice C k c2] 39)=w1 at *
  have c1:=b1.cell
  go_wp2_with (first
   |(go_at_call 52;with_reducible refine (HS.out _ hw1).mono ?_;rw [H1.out];rintro e w2 ⟨rfl,hx2⟩;have hw2:=hw1.trans hx2;have c2:=(b2.ext hx2).cell)
   |(go_at_call 19;with_reducible refine (HP.out _ hw2).mono ?_;rw [H2.out];rintro e w3 ⟨rfl,hx3⟩;have hw3:=hw2.trans hx3;have c3:=(b3.ext (hx2.trans hx3)).cell)
   |(go_at_call 52;with_reducible refine (HT.out _ hw3).mono ?_;rw [H3.out];rintro e w4 ⟨rfl,hx4⟩;have hw4:=hw3.trans hx4))
  go_ret
  exact⟨zE (by rw [hr.out]),by first|exact hw4|exact hw3|exact hw2⟩
end
set_option maxHeartbeats 4000000
theorem ext_blk4 {w w':World} {cs ds es fs:Array Value} {t u v x:TypeId}(h:Ext ((((w.alloc (.cells cs t)).alloc (.cells ds u)).alloc (.cells es v)).alloc (.cells fs x)) w'):Blk w' w.heap.size t cs∧Blk w' (w.heap.size+1) u ds∧Blk w' (w.heap.size+1+1) v es∧Blk w' (w.heap.size+1+1+1) x fs:=by
 have h2:=zZ (((Ext.refl _).alloc _).trans h)
 refine⟨h2.1,h2.2.1,h2.2.2,?_⟩
 have:=zbu h
 simpa using this
noncomputable def zeb (s t:Sys) (p a:Aut):Int:=if iface s p t<0∨zg a=false then 1 else if a.al≠iface s p t then 2 else if zax s a p=false then 3 else if zar [t] a=false then 4 else 0
section
variable {lo hi n c:Nat} {A:Option Addr} {s:Sys} {lo1 hi1 m1 d1 m1' d1':Nat} {B B':Option Addr} {p:Aut} {lo2 hi2 k c2:Nat} {C:Option Addr} {t:Sys} {w:World}
variable {lo3 hi3 m2 d2 m2' d2':Nat} {D D':Option Addr} {a:Aut}
theorem yH07a2 {P:Prop}(h:P:=by
 go_enter Tryz.func61,Tryz.ntmps61
 go_upto_region 1 with fail
 generalize (((w.alloc (.cells #[.int .i64 s.al,.int .i64 s.st,.slice A n c] 39)).alloc (.cells #[.int .i64 t.al,.int .i64 t.st,.slice C k c2] 39)).alloc (.cells #[.int .i64 p.al,.slice B m1 d1,.slice B' m1' d1'] 27)).alloc (.cells #[.int .i64 a.al,.slice D m2 d2,.slice D' m2' d2'] 27)=w1 at *
 have c1:=b1.cell
 have c2:=b2.cell
 have c3:=b3.cell
 go_wp2_with (first
  |(go_at_call 58;with_reducible refine (HI.out _ hw1).mono ?_;rintro e w2 ⟨rfl,hx2⟩;have hw2:=hw1.trans hx2;have c42:=(b4.ext hx2).cell)
  |(go_at_call 46;with_reducible refine (HA.out _ hw2).mono ?_;rw [H1.out];rintro e w3 ⟨rfl,hx3⟩;have hx13:=hx2.trans hx3;have hw3:=hw1.trans hx13;have c13:=(b1.ext hx13).cell;have c33:=(b3.ext hx13).cell;have c43:=(b4.ext hx13).cell)
  |(go_at_call 47;with_reducible refine (HU.out _ hw3).mono ?_;rintro e w4 ⟨rfl,hx4⟩;have hx14:=hx13.trans hx4;have hw4:=hw1.trans hx14;have c24:=(b2.ext hx14).cell;have c44:=(b4.ext hx14).cell)
  |(go_at_call 48;with_reducible refine (HK.out _ hw4).mono ?_;rintro e w5 ⟨rfl,hx5⟩;have hw5:=hw4.trans hx5))
 go_ret
 exact⟨zE (by rw [hr.out];try rfl),by first|exact hw5|exact hw4|exact hw3|exact hw2⟩
 ):P:=h
set_option maxRecDepth 100000 in
theorem spec_AssumptionFault (h:zQ w lo hi A n s)(ht:zQ w lo2 hi2 C k t)(hp:zF w lo1 hi1 B m1 B' m1' p)(ha:zF w lo3 hi3 D m2 D' m2' a) :
  Calls Tryz.prog 61 #[.agg #[.int .i64 s.al,.int .i64 s.st,.slice A n c],.agg #[.int .i64 t.al,.int .i64 t.st,.slice C k c2],.agg #[.int .i64 p.al,.slice B m1 d1,.slice B' m1' d1'],.agg #[.int .i64 a.al,.slice D m2 d2,.slice D' m2' d2']] w fun e w'=>e=.returned (.int .i64 (zeb s t p a))∧Ext w w':=by
 have HI:=hide (fun W (hW:Ext w W)=>zbL (c:=c) (d1:=d1) (d1':=d1') (c2:=c2) (h.ext hW) (hp.ext hW) (ht.ext hW))
 have HA:=hide (fun W (hW:Ext w W)=>zx _ _ _ _ d2 _ _ d2' _ _ (ha.ext hW))
 have HU:=hide (fun W (hW:Ext w W)=>zbX (c:=c) (d1:=d2) (d1':=d2') (d2:=d1) (d2':=d1') (h.ext hW) (ha.ext hW) (hp.ext hW))
 have HK:=hide (fun W (hW:Ext w W)=>zcj (c:=c2) (d2:=d2) (d2':=d2') (ht.ext hW) (ha.ext hW))
 have hr:=hide (show zeb s t p a=if iface s p t<0∨zg a=false then 1 else if a.al≠iface s p t then 2 else if zax s a p=false then 3 else if zar [t] a=false then 4 else 0 from rfl)
 clear h hp ht ha
 have hw1:Ext w ((((w.alloc (.cells #[.int .i64 s.al,.int .i64 s.st,.slice A n c] 39)).alloc (.cells #[.int .i64 t.al,.int .i64 t.st,.slice C k c2] 39)).alloc (.cells #[.int .i64 p.al,.slice B m1 d1,.slice B' m1' d1'] 27)).alloc (.cells #[.int .i64 a.al,.slice D m2 d2,.slice D' m2' d2'] 27)):=((((Ext.refl w).alloc _).alloc _).alloc _).alloc _
 obtain⟨b1,b2,b3,b4⟩:=ext_blk4 (Ext.refl ((((w.alloc (.cells #[.int .i64 s.al,.int .i64 s.st,.slice A n c] 39)).alloc (.cells #[.int .i64 t.al,.int .i64 t.st,.slice C k c2] 39)).alloc (.cells #[.int .i64 p.al,.slice B m1 d1,.slice B' m1' d1'] 27)).alloc (.cells #[.int .i64 a.al,.slice D m2 d2,.slice D' m2' d2'] 27)))
 generalize iface s p t=I at *
 generalize zax s a p=u at *
 generalize zar [t] a=v at *
 by_cases hI:I<0
 ·rw [if_pos (Or.inl hI)] at hr
  obtain⟨y,H1⟩:∃ y,Hid (zg a=y):=⟨_,rfl⟩
  have hI2:=hide hI
  exact yH07a2
 have hI0:¬ I<0:=hI
 have hI1:0≤I:=by omega
 clear hI
 cases h1:zg a
 ·rw [h1,if_pos (Or.inr rfl)] at hr
  have H1:=hide h1
  clear h1
  exact yH07a2
 rw [h1,if_neg (by rintro (h|h);exact hI0 h;cases h)] at hr
 have H1:=hide h1
 clear h1
 by_cases h2:a.al=I
 ·rw [if_neg (fun hn=>hn h2)] at hr
  subst h2
  cases u<;>cases v
  all_goals
   have H3:=hide (rfl:true=true)
   have H4:=hide (rfl:true=true)
   exact yH07a2
 ·rw [if_pos h2] at hr
  have h2b:(a.al==I)=false:=by simpa using h2
  exact yH07a2
theorem yH07a1 {P:Prop}(h:P:=by
 go_enter Tryz.func23,Tryz.ntmps23
 go_upto_region 1 with fail
 generalize (((w.alloc (.cells #[.int .i64 s.al,.int .i64 s.st,.slice A n c] 39)).alloc (.cells #[.int .i64 t.al,.int .i64 t.st,.slice C k c2] 39)).alloc (.cells #[.int .i64 p.al,.slice B m1 d1,.slice B' m1' d1'] 27)).alloc (.cells #[.int .i64 a.al,.slice D m2 d2,.slice D' m2' d2'] 27)=w1 at *
 have c1:=b1.cell
 have c2:=b2.cell
 have c3:=b3.cell
 go_wp2_with (first
  |(go_at_call 30;with_reducible refine (HI.out _ hw1).mono ?_;rintro e w2 ⟨rfl,hx2⟩;have hw2:=hw1.trans hx2;have c42:=(b4.ext hx2).cell)
  |(go_at_call 19;with_reducible refine (HA.out _ hw2).mono ?_;rw [H1.out];rintro e w3 ⟨rfl,hx3⟩;have hx13:=hx2.trans hx3;have hw3:=hw1.trans hx13;have c13:=(b1.ext hx13).cell;have c33:=(b3.ext hx13).cell;have c43:=(b4.ext hx13).cell)
  |(go_at_call 20;with_reducible refine (HU.out _ hw3).mono ?_;rintro e w4 ⟨rfl,hx4⟩;have hx14:=hx13.trans hx4;have hw4:=hw1.trans hx14;have c24:=(b2.ext hx14).cell;have c44:=(b4.ext hx14).cell)
  |(go_at_call 21;with_reducible refine (HK.out _ hw4).mono ?_;rintro e w5 ⟨rfl,hx5⟩;have hw5:=hw4.trans hx5))
 go_ret
 exact⟨zE (by rw [hr.out];try rfl),by first|exact hw5|exact hw4|exact hw3|exact hw2⟩
 ):P:=h
set_option maxRecDepth 100000 in
theorem impl_AssumptionFault (h:zQ w lo hi A n s)(ht:zQ w lo2 hi2 C k t)(hp:zF w lo1 hi1 B m1 B' m1' p)(ha:zF w lo3 hi3 D m2 D' m2' a)(hT:Tab w) :
  Calls Tryz.prog 23 #[.agg #[.int .i64 s.al,.int .i64 s.st,.slice A n c],.agg #[.int .i64 t.al,.int .i64 t.st,.slice C k c2],.agg #[.int .i64 p.al,.slice B m1 d1,.slice B' m1' d1'],.agg #[.int .i64 a.al,.slice D m2 d2,.slice D' m2' d2']] w fun e w'=>e=.returned (.int .i64 (zeb s t p a))∧Ext w w':=by
 have HI:=hide (fun W (hW:Ext w W)=>zeU (c:=c) (d1:=d1) (d1':=d1') (c2:=c2) (h.ext hW) (hp.ext hW) (ht.ext hW))
 have HA:=hide (fun W (hW:Ext w W)=>zw _ _ _ _ d2 _ _ d2' _ _ (ha.ext hW))
 have HU:=hide (fun W (hW:Ext w W)=>zbU (c:=c) (d1:=d2) (d1':=d2') (d2:=d1) (d2':=d1') (h.ext hW) (ha.ext hW) (hp.ext hW) (hT.ext hW))
 have HK:=hide (fun W (hW:Ext w W)=>zcb (c:=c2) (d2:=d2) (d2':=d2') (ht.ext hW) (ha.ext hW) (hT.ext hW))
 have hr:=hide (show zeb s t p a=if iface s p t<0∨zg a=false then 1 else if a.al≠iface s p t then 2 else if zax s a p=false then 3 else if zar [t] a=false then 4 else 0 from rfl)
 clear h hp ht ha
 have hw1:Ext w ((((w.alloc (.cells #[.int .i64 s.al,.int .i64 s.st,.slice A n c] 39)).alloc (.cells #[.int .i64 t.al,.int .i64 t.st,.slice C k c2] 39)).alloc (.cells #[.int .i64 p.al,.slice B m1 d1,.slice B' m1' d1'] 27)).alloc (.cells #[.int .i64 a.al,.slice D m2 d2,.slice D' m2' d2'] 27)):=((((Ext.refl w).alloc _).alloc _).alloc _).alloc _
 obtain⟨b1,b2,b3,b4⟩:=ext_blk4 (Ext.refl ((((w.alloc (.cells #[.int .i64 s.al,.int .i64 s.st,.slice A n c] 39)).alloc (.cells #[.int .i64 t.al,.int .i64 t.st,.slice C k c2] 39)).alloc (.cells #[.int .i64 p.al,.slice B m1 d1,.slice B' m1' d1'] 27)).alloc (.cells #[.int .i64 a.al,.slice D m2 d2,.slice D' m2' d2'] 27)))
 generalize iface s p t=I at *
 generalize zax s a p=u at *
 generalize zar [t] a=v at *
 by_cases hI:I<0
 ·rw [if_pos (Or.inl hI)] at hr
  obtain⟨y,H1⟩:∃ y,Hid (zg a=y):=⟨_,rfl⟩
  have hI2:=hide hI
  exact yH07a1
 have hI0:¬ I<0:=hI
 have hI1:0≤I:=by omega
 clear hI
 cases h1:zg a
 ·rw [h1,if_pos (Or.inr rfl)] at hr
  have H1:=hide h1
  clear h1
  exact yH07a1
 rw [h1,if_neg (by rintro (h|h);exact hI0 h;cases h)] at hr
 have H1:=hide h1
 clear h1
 by_cases h2:a.al=I
 ·rw [if_neg (fun hn=>hn h2)] at hr
  subst h2
  cases u<;>cases v
  all_goals
   have H3:=hide (rfl:true=true)
   have H4:=hide (rfl:true=true)
   exact yH07a1
 ·rw [if_pos h2] at hr
  have h2b:(a.al==I)=false:=by simpa using h2
  exact yH07a1
end
set_option maxHeartbeats 2000000
def wl (s:ByteArray):List Nat:=s.data.toList.map fun b=>b.toNat - 97
theorem zfW (s:ByteArray):(wl s).length=s.size:=by simp [wl]
theorem zeu {s:ByteArray} {k:Nat}(hk:k<s.size):(wl s)[k]?=some (s[k].toNat - 97):=by
 unfold wl
 rw [List.getElem?_map,zbO s k hk];rfl
theorem zbe {s:ByteArray}(h:zbz s=true) {k:Nat}(hk:k<s.size):97≤s[k].toNat∧s[k].toNat≤102:=by
 unfold zbz at h
 simp only [Bool.and_eq_true,List.all_eq_true] at h
 have:=h.2 s[k] (List.mem_of_getElem? (zbO s k hk))
 simp only [zda,decide_eq_true_eq] at this
 omega
theorem zaU {s:ByteArray}(h:zbz s=true):s.size≤50000:=by
 unfold zbz at h
 simp only [Bool.and_eq_true,decide_eq_true_eq] at h
 exact h.1
theorem wl_lt {s:ByteArray}(h:zbz s=true):∀ l∈wl s,l<6:=by
 intro l hl
 obtain⟨k,hk⟩:=List.getElem?_of_mem hl
 have hkl:=(List.getElem?_eq_some_iff.1 hk).1
 rw [zfW] at hkl
 rw [zeu hkl] at hk
 have:=zbe h hkl
 have:=Option.some.inj hk
 omega
def alB (ls:List Nat):Nat:=ls.foldl (fun u l=>u|||2 ^ l) 0
theorem alB_snoc (ls:List Nat) (l:Nat):alB (ls++[l])=alB ls|||2 ^ l:=by simp [alB]
theorem zfs (ls:List Nat) (k:Nat):(alB ls).testBit k=true↔k∈ls:=by
 have key:∀ (ls:List Nat) (u:Nat),(ls.foldl (fun u l=>u|||2 ^ l) u).testBit k=true↔u.testBit k=true∨k∈ls:=by
  intro ls
  induction ls with
  |nil=>intro u;simp
  |cons l r ih =>
   intro u
   rw [List.foldl_cons,ih,Nat.testBit_or,Nat.testBit_two_pow,Bool.or_eq_true,decide_eq_true_eq,List.mem_cons]
   constructor
   ·rintro ((h|h)|h)
    ·exact Or.inl h
    ·exact Or.inr (Or.inl h.symm)
    ·exact Or.inr (Or.inr h)
   ·rintro (h|h|h)
    ·exact Or.inl (Or.inl h)
    ·exact Or.inl (Or.inr h.symm)
    ·exact Or.inr h
 have:=key ls 0
 simpa [alB] using this
theorem alB_lt {ls:List Nat}(h:∀ l∈ls,l<6):alB ls<64:=Nat.lt_pow_two_of_testBit (n:=6) _ fun k hk=>by
 rw [Bool.eq_false_iff]
 intro hb
 have:=h k ((zfs ls k).1 hb)
 omega
def inB (s:ByteArray) (a:Nat):Bool:=decide (s.size≤50000)&&overB s a
theorem zbf {s:ByteArray} {a:Nat}(h:inB s a=true):zbz s=true:=by
 unfold inB at h
 simp only [Bool.and_eq_true,decide_eq_true_eq] at h
 unfold zbz
 simp only [Bool.and_eq_true,decide_eq_true_eq]
 refine⟨h.1,?_⟩
 rw [List.all_eq_true]
 intro b hb
 have h2:=h.2
 unfold overB at h2
 rw [List.all_eq_true] at h2
 have h3:=h2 b hb
 unfold hasB ltr at h3
 simp only [Bool.and_eq_true,decide_eq_true_eq] at h3
 unfold zda
 rw [decide_eq_true_eq]
 have h4:=h3.1
 split at h4<;>omega
theorem inB_iff {s:ByteArray} {a:Nat}:inB s a=true↔zbz s=true∧alB (wl s)&&&a=alB (wl s):=by
 constructor
 ·intro h
  have hw:=zbf h
  refine⟨hw,Nat.eq_of_testBit_eq fun k=>?_⟩
  rw [Nat.testBit_and]
  cases hk:(alB (wl s)).testBit k
  ·rfl
  ·rw [Bool.true_and]
   have hm:=(zfs _ k).1 hk
   obtain⟨i,hi⟩:=List.getElem?_of_mem hm
   have hil:=(List.getElem?_eq_some_iff.1 hi).1
   rw [zfW] at hil
   rw [zeu hil] at hi
   have hb:=zbe hw hil
   have e:=Option.some.inj hi
   unfold inB overB at h
   simp only [Bool.and_eq_true,List.all_eq_true] at h
   have:=h.2 s[i] (List.mem_of_getElem? (zbO s i hil))
   unfold hasB ltr at this
   rw [if_neg (by omega)] at this
   simp only [Bool.and_eq_true] at this
   rw [← e,← this.2]
   congr 1
   omega
 ·rintro ⟨hw,h⟩
  unfold inB
  simp only [Bool.and_eq_true,decide_eq_true_eq]
  refine⟨zaU hw,?_⟩
  unfold overB
  rw [List.all_eq_true]
  intro b hb
  obtain⟨i,hi⟩:=List.getElem?_of_mem hb
  have hil:i<s.size:=by have:=(List.getElem?_eq_some_iff.1 hi).1;simpa using this
  rw [zbO s i hil] at hi
  obtain rfl:=Option.some.inj hi
  have hb2:=zbe hw hil
  unfold hasB ltr
  rw [if_neg (by omega)]
  have hm:(alB (wl s)).testBit (s[i].toNat - 97)=true:=(zfs _ _).2 (List.mem_of_getElem? (zeu hil))
  rw [← h,Nat.testBit_and,Bool.and_eq_true] at hm
  simp only [Bool.and_eq_true,decide_eq_true_eq]
  refine⟨by omega,?_⟩
  rw [show ((s[i].toNat:Int) - 97).toNat=s[i].toNat - 97 by omega]
  exact hm.2
theorem zdd {s:ByteArray} {w:World}(hs:s.size≤9223372036854775807) :
  Calls Tryz.prog 196 #[.string s] w fun e w'=>e=.returned (.tuple #[.int .i64 (if zbz s=true then alB (wl s) else 0:Nat),.bool (zbz s)])∧w=w':=by
 cases hw:zbz s
 ·have Hw:=hide hw
  clear hw
  go_enter Tryz.func196,Tryz.ntmps196
  go_wp2_with (go_at_call 114;refine (zco s _ hs).mono ?_;rw [Hw.out];rintro e w' ⟨rfl,rfl⟩)
  go_ret2
  exact⟨rfl,rfl⟩
 ·have hsz:=zaU hw
  have Hb:=hide (fun k hk=>zbe hw (k:=k) hk)
  have Hl:=hide (wl_lt hw)
  have Hw:=hide hw
  clear hw
  go_enter Tryz.func196,Tryz.ntmps196
  go_wp2_with (go_at_call 114;refine (zco s _ hs).mono ?_;rw [Hw.out];rintro e w' ⟨rfl,rfl⟩)
  go_loop [4,5] (fun v i=>∃ k u:Nat,k≤s.size∧i=.int .i64 k∧v=.int .i64 u∧u<64∧Hid (u=alB ((wl s).take k))) (fun _ i=>s.size - (intOf i).toNat)
  case atStart=>exact⟨0,0,Nat.zero_le _,rfl,rfl,by omega,rfl⟩
  case round =>
   obtain⟨k,u,hk,rfl,rfl,hu,hua⟩:=hrel
   by_cases hlt:k<s.size
   ·have hbb:=Hb.out k hlt
    obtain⟨l,hl⟩:∃ l:Nat,Hid ((s[k].toNat:Int) - 97=l):=⟨s[k].toNat - 97,by unfold Hid;omega⟩
    have hl6:l<6:=by have:=hl.out;omega
    have hst:=hide (show alB ((wl s).take (k+1))=u|||2 ^ l by
     rw [List.take_add_one,zeu hlt,Option.toList_some,alB_snoc,← hua.out]
     congr 2
     have:=hl.out;omega)
    have hor:=hide (show bits .or .i64 (u:Nat) ((2:Int) ^ l)=((u|||2 ^ l:Nat):Int) by
     have:=zaO (a:=u) (by unfold Sm;omega) (Sm.bit (n:=l) (by omega))
     rw [show (((2:Nat) ^ l:Nat):Int)=(2:Int) ^ l by simp] at this
     exact this)
    have hlt2:u|||2 ^ l<64:=Nat.or_lt_two_pow (n:=6) hu (Nat.pow_lt_pow_right (by omega) hl6)
    have ho:=hor.out
    clear hbb
    go_wp2_with (first
     |(go_at_call 148;refine (zbb s k hlt _).mono ?_;rw [hl.out];rintro e w' ⟨rfl,rfl⟩)
     |(go_at_call 182;refine (zeH l (by omega) _).mono ?_;rintro e w' ⟨rfl,rfl⟩))
    go_round
    case rel=>exact⟨k+1,u|||2 ^ l,by omega,by go_num,by first|rfl|rw [hor.out],hlt2,hst.symm⟩
    case measure=>simp [intOf];omega
   ·obtain rfl:k=s.size:=by omega
    have hfin:=hide (show u=alB (wl s) by rw [hua.out,List.take_of_length_le (by rw [zfW];exact Nat.le_refl _)])
    go_wp2
    go_ret2
    exact⟨by rw [hfin.out];rfl,rfl⟩
theorem zaF {s:ByteArray} {a:Nat} {w:World}(hs:s.size≤9223372036854775807)(ha:a≤63) :
  Calls Tryz.prog 151 #[.string s,.int .i64 a] w fun e w'=>e=.returned (.bool (inB s a))∧w=w':=by
 have hal:=hide (show (decide ((0:Int)≤a∧(a:Int)≤63))=true by simp;omega)
 cases hw:zbz s
 ·have hr:=hide (show inB s a=false by
   rw [Bool.eq_false_iff]
   intro h
   rw [zbf h] at hw;cases hw)
  have Hw:=hide hw
  clear hw
  go_enter Tryz.func151,Tryz.ntmps151
  go_wp2_with (go_at_call 196;refine (zdd hs).mono ?_;rw [Hw.out];rintro e w' ⟨rfl,rfl⟩)
  go_ret
  exact⟨zk (by rw [hr.out]),rfl⟩
 ·obtain⟨u,hu⟩:∃ u,Hid (alB (wl s)=u):=⟨_,rfl⟩
  have hu64:u<64:=by rw [← hu.out];exact alB_lt (wl_lt hw)
  have hbi:=hide (zbt (a:=u) (b:=a) (by unfold Sm;omega) (by unfold Sm;omega))
  have hb:=hbi.out
  have hr:=hide (show inB s a=(((u&&&a:Nat):Int)==(u:Int)) by
   rw [Bool.eq_iff_iff,inB_iff,hu.out,beq_iff_eq]
   constructor
   ·rintro ⟨_,h⟩;rw [h]
   ·intro h;exact⟨hw,by omega⟩)
  have Hw:=hide hw
  clear hw
  go_enter Tryz.func151,Tryz.ntmps151
  go_wp2_with (first
   |(go_at_call 196;refine (zdd hs).mono ?_;rw [Hw.out,if_pos rfl,hu.out];rintro e w' ⟨rfl,rfl⟩)
   |(go_at_call 96;refine (zM _ _).mono ?_;rw [hal.out];rintro e w' ⟨rfl,rfl⟩))
  go_ret
  exact⟨zk (by rw [hr.out]),rfl⟩
set_option maxHeartbeats 2000000
def bnum (bs:List UInt8):List Int:=bs.map fun b=>(b.toNat:Int)
def bcl (bs:List UInt8):List Value:=(bnum bs).map (Value.int .u8)
theorem bcl_length (bs:List UInt8):(bcl bs).length=bs.length:=by simp [bcl,bnum]
def zgb (a:Nat) (bs:List UInt8):List UInt8:=bs.filter fun b=>hasB a (ltr b.toNat)
def zaY (s:ByteArray) (a:Nat):ByteArray:=strOfNums (bnum (zgb a s.data.toList))
theorem keepL_take {s:ByteArray} {a k:Nat}(hk:k<s.size):zgb a (s.data.toList.take (k+1))=zgb a (s.data.toList.take k)++if hasB a (ltr s[k].toNat)=true then [s[k]] else []:=by
 rw [List.take_add_one,zbO s k hk,Option.toList_some]
 unfold zgb
 rw [List.filter_append]
 congr 1
 cases h:hasB a (ltr s[k].toNat)<;>simp [h]
theorem keepL_len (s:ByteArray) (a k:Nat):(zgb a (s.data.toList.take k)).length≤s.size:=by
 refine Nat.le_trans (List.length_filter_le _ _) ?_
 rw [List.length_take]
 have:s.data.toList.length=s.size:=by simp
 omega
set_option maxRecDepth 100000 in
theorem conv_own {W:World} {base n:Nat} {A:Option Addr} {cap:Nat} {bs:List UInt8}(h:W.ownsRow base 5 1 (.slice A n cap) n (bcl bs)) :
  (convert 22 9 (.slice A n cap)).run Tryz.prog W=.ok (.string (strOfNums (bnum bs))) W:=by
 have hl:bs.length=n:=by have:=zeB h;rw [bcl_length] at this;omega
 rcases h.2 with ⟨h1,h2⟩|⟨g,cap',cur,h1,_⟩
 ·injection h1 with h1 h3 h4
  subst h1;subst h3;subst h4
  obtain rfl:bs=[]:=List.eq_nil_of_length_eq_zero hl
  exact run_convert_bytes_nil (P:=Tryz.prog) W 22 5 u8_row u8_und _ _ _ zgZ
 ·injection h1 with h1
  subst h1
  refine run_convert_bytes_arg (P:=Tryz.prog) W 22 5 u8_row u8_und g 0 n cap (bnum bs) (by simp [bnum,hl]) (fun i hi=>?_) _ zgZ
  rw [Nat.zero_add,h.cellAt i (by omega)]
  unfold bcl
  rw [List.getElem?_map]
  have hi2:i<(bnum bs).length:=by simp [bnum];omega
  rw [List.getElem?_eq_getElem hi2]
  simp [List.getD,List.getElem?_eq_getElem hi2]
theorem own_u8_lit (w:World):(w.alloc (.cells #[] 5)).ownsRow w.heap.size 5 1 (.slice (some ⟨w.heap.size,0,none⟩) 0 0) 0 (bcl []):=World.ownsRow_lit w #[] 0 (Nat.le_refl _) (by unfold maxLen;omega) rfl
set_option maxRecDepth 100000 in
theorem zaE {s:ByteArray} {a:Nat} {w:World}(hw:zbz s=true)(ha:a≤63) :
  Calls Tryz.prog 81 #[.string s,.int .i64 a] w fun e w'=>e=.returned (.string (zaY s a))∧Ext w w':=by
 have hal:=hide (show (decide ((0:Int)≤a∧(a:Int)≤63))=true by simp;omega)
 have hsz:=zaU hw
 have Hb:=hide (fun k hk=>zbe hw (k:=k) hk)
 have Hw:=hide hw
 clear hw
 go_enter Tryz.func81,Tryz.ntmps81
 go_upto_region 3 with (first
  |(go_at_call 114;refine (zco s _ (by omega)).mono ?_;rw [Hw.out];rintro e w' ⟨rfl,rfl⟩)
  |(go_at_call 96;refine (zM _ _).mono ?_;rw [hal.out];rintro e w' ⟨rfl,rfl⟩))
 go_upto_region 4 with fail
 have hown0:=own_u8_lit w
 have hx0:=(Ext.refl w).alloc (.cells #[] 5)
 generalize hA0:(some ⟨w.heap.size,0,none⟩:Option Addr)=A0 at *
 clear hA0
 generalize w.alloc (.cells #[] 5)=w0 at *
 go_wp2_with fail
 go_loopw [5,6] (fun v i wr=>∃ (k:Nat) (bs:List UInt8),k≤s.size∧i=.int .i64 k∧wr.ownsRow w.heap.size 5 1 v bs.length (bcl bs)∧Hid (bs=zgb a (s.data.toList.take k))∧bs.length≤50000∧Ext w wr) (fun _ i _=>s.size - (intOf i).toNat)
 case atStart=>exact⟨0,[],Nat.zero_le _,rfl,hown0,rfl,by simp,hx0⟩
 case round =>
  clear hown0 hx0
  obtain⟨k,bs,hk,rfl,hown,hbs,hbl,hx⟩:=hrel
  by_cases hlt:k<s.size
  ·have hbb:=Hb.out k hlt
   obtain⟨l,hl⟩:∃ l:Nat,Hid ((s[k].toNat:Int) - 97=l):=⟨s[k].toNat - 97,by unfold Hid;omega⟩
   have hltr:=hide (show hasB a (ltr s[k].toNat)=a.testBit l by
    unfold hasB ltr
    have:=hl.out
    rw [if_neg (by omega),this]
    simp)
   have hst:=hide (keepL_take (a:=a) hlt)
   have hl2:=keepL_len s a (k+1)
   have hasm:Sm a:=by unfold Sm;omega
   have hgetB:=hide (show s.data.toList[k]?=some s[k] from zbO s k hlt)
   cases hb:a.testBit l
   ·have Hbt:=hide hb
    have hst2:=hide (show bs=zgb a (s.data.toList.take (k+1)) by rw [hst.out,hltr.out,Hbt.out,hbs.out];simp)
    clear hb
    go_wp2_with (first
     |(go_at_call 148;refine (zbb s k hlt _).mono ?_;rw [hl.out];rintro e w' ⟨rfl,rfl⟩)
     |(go_at_call 147;refine (zad a l hasm _ (by have:=hl.out;omega)).mono ?_;rw [Hbt.out];rintro e w' ⟨rfl,rfl⟩))
    go_roundw
    case rel=>exact⟨k+1,bs,by omega,by go_num,hown,hst2,hbl,hx⟩
    case measure=>simp [intOf];omega
   ·have Hbt:=hide hb
    have hst2:=hide (show bs++[s[k]]=zgb a (s.data.toList.take (k+1)) by rw [hst.out,hltr.out,Hbt.out,hbs.out];simp)
    have hl3:(bs++[s[k]]).length≤50000:=by rw [hst2.out];omega
    rw [List.length_append,List.length_singleton] at hl3
    clear hb
    go_wp2_with (first
     |(go_at_call 148;refine (zbb s k hlt _).mono ?_;rw [hl.out];rintro e w' ⟨rfl,rfl⟩)
     |(go_at_call 147;refine (zad a l hasm _ (by have:=hl.out;omega)).mono ?_;rw [Hbt.out];rintro e w' ⟨rfl,rfl⟩)
     |(at_builtin;refine zP w wr rfl _ _ _ rfl 5 _ 1 1 Tryz.underlying22 info_u8 rfl (by decide) u5 _ _ _ _ rfl rfl hx hown rfl (cells_u8 _) (by unfold maxLen;omega) (by omega) ?_;intro v' w5 hext5 hown5 hg5 hat5))
    go_roundw
    case rel=>exact⟨k+1,bs++[s[k]],by omega,by go_num,by rw [List.length_append];simpa [bcl,bnum] using hown5,hst2,by rw [List.length_append];exact hl3,hext5⟩
    case measure=>simp [intOf];omega
  ·obtain rfl:k=s.size:=by omega
   have hfin:=hide (show strOfNums (bnum bs)=zaY s a by rw [hbs.out,List.take_of_length_le (by simp)];rfl)
   obtain⟨A5,c5,rfl⟩:=zh hown
   have hcv:=conv_own hown
   clear hown
   go_wp2_with (simp only [hcv])
   go_ret
   exact⟨by rw [hfin.out];rfl,hx⟩
set_option maxHeartbeats 4000000
theorem restB_size (s:ByteArray) (a:Nat):(zaY s a).size≤s.size:=by
 have h:=keepL_len s a s.size
 rw [List.take_of_length_le (by simp)] at h
 have e:(zaY s a).size=(bnum (zgb a s.data.toList)).length:=by unfold zaY;rw [strOfNums_size]
 rw [e,bnum,List.length_map]
 exact h
set_option maxHeartbeats 4000000
def runA (p:Aut) (q:Nat) (ls:List Nat):Nat:=ls.foldl (aGo p) q
theorem zen (p:Aut) (q:Nat) (ls:List Nat) (l:Nat):runA p q (ls++[l])=aGo p (runA p q ls) l:=by simp [runA]
theorem zfG {p:Aut}(hv:zg p=true) {ls:List Nat}(h:∀ l∈ls,l<6) {q:Nat}(hq:q<p.next.length):runA p q ls<p.next.length:=by
 induction ls generalizing q with
 |nil=>exact hq
 |cons l r ih=>exact ih (fun x hx=>h x (List.mem_cons_of_mem _ hx)) (zdW hv hq (h l List.mem_cons_self))
theorem restB_data (s:ByteArray) (a:Nat):(zaY s a).data.toList=zgb a s.data.toList:=by
 unfold zaY strOfNums bnum
 simp only [List.map_map]
 refine (List.map_congr_left (g:=id) fun b _=>?_).trans (List.map_id _)
 simp
theorem zel {s:ByteArray}(h:zbz s=true) (a:Nat):inB (zaY s a) a=true:=by
 unfold inB overB
 rw [restB_data,Bool.and_eq_true,decide_eq_true_eq]
 refine⟨Nat.le_trans (restB_size s a) (zaU h),?_⟩
 rw [List.all_eq_true]
 intro b hb
 exact (List.mem_filter.1 hb).2
section
variable {lo hi m d m' d':Nat} {B B':Option Addr} {p:Aut} {t:ByteArray} {w:World}
set_option maxRecDepth 100000 in
theorem spec_l3Run (h:zF w lo hi B m B' m' p)(hv:zg p=true)(ht:zbz t=true) :
  Calls Tryz.prog 177 #[.agg #[.int .i64 p.al,.slice B m d,.slice B' m' d'],.int .i64 0,.string t] w fun e w'=>e=.returned (.int .i64 (runA p 0 (wl t):Nat))∧Ext w w':=by
 have HS:=hide (fun W (hW:Ext w W)=>h.ext hW)
 have hsz:=zaU ht
 have Hb:=hide (fun k hk=>zbe ht (k:=k) hk)
 have hn1:=(zi hv).2.1
 have Hv:=hide hv
 have Hlt:=hide (fun k=>zfG hv (ls:=(wl t).take k) (fun l hl=>wl_lt ht l (List.mem_of_mem_take hl)) (q:=0) (by omega))
 clear h hv ht
 go_enter Tryz.func177,Tryz.ntmps177
 go_upto_region 1 with fail
 have hw1:Ext w (w.alloc (.cells #[.int .i64 p.al,.slice B m d,.slice B' m' d'] 27)):=(Ext.refl w).alloc _
 have b1:=Blk.new w 27 #[.int .i64 p.al,.slice B m d,.slice B' m' d']
 generalize w.alloc (.cells #[.int .i64 p.al,.slice B m d,.slice B' m' d'] 27)=w1 at *
 go_wp2_with fail
 go_loopw [1,7] (fun v i wr=>∃ k x:Nat,i=.int .i64 k∧k≤t.size∧v=.int .i64 x∧Hid (x=runA p 0 ((wl t).take k))∧Ext w1 wr) (fun _ i _=>t.size - (intOf i).toNat)
 case atStart=>exact⟨0,0,rfl,Nat.zero_le _,rfl,rfl,Ext.refl _⟩
 case round =>
  obtain⟨k,x,rfl,hk,rfl,hxo,hxr⟩:=hrel
  by_cases hlt:k<t.size
  ·have hbb:=Hb.out k hlt
   obtain⟨l,hl⟩:∃ l:Nat,Hid ((t[k].toNat:Int) - 97=l):=⟨t[k].toNat - 97,by unfold Hid;omega⟩
   have hl6:l<6:=by have:=hl.out;omega
   have hst:=hide (show aGo p x l=runA p 0 ((wl t).take (k+1)) by
    rw [List.take_add_one,zeu hlt,Option.toList_some,zen,← hxo.out]
    congr 1
    have:=hl.out;omega)
   have hxl:x<p.next.length:=by rw [hxo.out];exact Hlt.out k
   have HC:=hide (fun W (hW:Ext w1 W)=>zcA (d:=d) (d':=d') (HS.out W (hw1.trans hW)) Hv.out hxl hl6)
   generalize aGo p x l=y at *
   have c1:∀ W,Ext wr W→∀ j,W.cell? ⟨w.heap.size,j,none⟩=#[Value.int .i64 p.al,.slice B m d,.slice B' m' d'][j]?:=fun W hW=>(b1.ext (hxr.trans hW)).cell
   have hww:=Ext.refl wr
   clear hbb
   go_upto_region 4 with fail
   refine uR (fun X=>Ext wr X) [5] (OrdU.of [0,1,2,3,4,5,6]) ?_
   refine uQ ?_
   (refine zb rfl rfl rfl (fun K hK=>?_);go_simp)
   refine (zbb t k hlt _).mono ?_
   rw [hl.out]
   rintro e w' ⟨rfl,rfl⟩
   refine hK.out _ _ hww.drew ?_
   refine pT ?_
   (refine za rfl rfl rfl rfl (fun K hK=>?_))
   go_simp
   refine (HC.out _ (hxr.trans hww.drew)).mono ?_
   rintro e w5 ⟨rfl,hx5⟩
   refine hK.out _ _ ?_
   refine pT ?_
   refine uQ ?_
   refine zd ?_
   have hx6:=hxr.trans (hww.drew.trans hx5)
   go_wp2_with fail
   go_roundw
   case rel=>exact⟨k+1,y,by go_num,by omega,rfl,hst,hx6⟩
   case measure=>simp [intOf];omega
  ·obtain rfl:k=t.size:=by omega
   have hfin:=hide (show x=runA p 0 (wl t) by rw [hxo.out,List.take_of_length_le (by rw [zfW];exact Nat.le_refl _)])
   go_wp2
   go_ret
   exact⟨zE (by rw [hfin.out]),hw1.trans hxr⟩
end
set_option maxHeartbeats 4000000
theorem iface_neg (s t:Sys) (p:Aut):iface s p t<0↔(zj s&&(zg p&&zj t))=false:=by
 unfold iface
 cases h:(zj s&&(zg p&&zj t))
 ·simp
 ·simp
set_option maxHeartbeats 2000000
theorem pnx_mod (ms:List Mem) (x l:Nat):pnx ms x l=pnx ms (x % zB ms) l:=by
 induction ms generalizing x with
 |nil=>rfl
 |cons m r ih =>
  rw [zcx]
  unfold pnx
  have e1:x % (m.1*zB r) / zB r % m.1=x / zB r % m.1:=by
   rw [Nat.mul_comm,Nat.mod_mul_right_div_self,Nat.mod_mod]
  have e2:pnx r (x % (m.1*zB r)) l=pnx r x l:=by
   rw [ih (x % (m.1*zB r)),Nat.mod_mul_left_mod,← ih x]
  rw [e1,e2]
theorem goes_lt {ms:List Mem}(hm:∀ m∈ms,zdt m) {v:List Nat}(hv:∀ l∈v,l<6) {x:Nat}(h:Goes (pnx ms) [0] v x):x<zB ms:=by
 rcases zac v with rfl|⟨u,l,rfl⟩
 ·have:=h.inv_nil
  have h1:=zek hm
  simp at this
  omega
 ·obtain⟨n,_,hx⟩:=h.inv
  exact zgs hm (hv l (by simp)) x hx
theorem mem_lt {m:Mem}(hm:zdt m) {v:List Nat}(hv:∀ l∈v,l<6) {q:Nat}(h:Goes m.2 [0] v q):q<m.1:=by
 have key:∀ n (v:List Nat),v.length=n→(∀ l∈v,l<6)→∀ q,Goes m.2 [0] v q→q<m.1:=by
  intro n
  induction n with
  |zero =>
   intro v hl _ q h
   obtain rfl:=List.eq_nil_of_length_eq_zero hl
   have:=h.inv_nil
   have:=hm.1
   simp at *
   omega
  |succ n ih =>
   intro v hl hv q h
   rcases zac v with rfl|⟨u,l,rfl⟩
   ·simp at hl
   ·obtain⟨q',h1,h2⟩:=h.inv
    exact hm.2 q' l (ih u (by simpa using hl) (fun k hk=>hv k (by simp [hk])) q' h1) (hv l (by simp)) q h2
 exact key _ v rfl hv q h
theorem zee {m:Mem} {r:List Mem}(hm:zdt m)(hr:∀ m∈r,zdt m):∀ (n:Nat) (v:List Nat),v.length=n→(∀ l∈v,l<6)→∀ x,Goes (pnx (m :: r)) [0] v x↔∃ q y,x=q*zB r+y∧Goes m.2 [0] v q∧Goes (pnx r) [0] v y:=by
 intro n
 induction n with
 |zero =>
  intro v hl _ x
  obtain rfl:=List.eq_nil_of_length_eq_zero hl
  constructor
  ·intro h
   have:=h.inv_nil
   simp at this
   subst this
   exact⟨0,0,by simp,.nil (by simp),.nil (by simp)⟩
  ·rintro ⟨q,y,rfl,h1,h2⟩
   have h1:=h1.inv_nil
   have h2:=h2.inv_nil
   simp at h1 h2
   subst h1;subst h2
   exact .nil (by simp)
 |succ n ih =>
  intro v hl hv x
  rcases zac v with rfl|⟨u,l,rfl⟩
  ·simp at hl
  have hu:∀ k∈u,k<6:=fun k hk=>hv k (by simp [hk])
  have hl6:l<6:=hv l (by simp)
  have ih:=ih u (by simpa using hl) hu
  have hP:=zek hr
  have step:∀ q y,Goes m.2 [0] u q→Goes (pnx r) [0] u y→pnx (m :: r) (q*zB r+y) l=(m.2 q l).flatMap fun q'=>(pnx r y l).map fun y'=>q'*zB r+y':=by
   intro q y h1 h2
   have hq:=mem_lt hm hu h1
   have hy:=goes_lt hr hu h2
   show (m.2 ((q*zB r+y) / zB r % m.1) l).flatMap (fun q'=>(pnx r (q*zB r+y) l).map fun y'=>q'*zB r+y')=_
   have e1:(q*zB r+y) / zB r % m.1=q:=by
    rw [Nat.mul_comm,Nat.mul_add_div (by omega),Nat.div_eq_of_lt hy,Nat.add_zero,Nat.mod_eq_of_lt hq]
   have e2:pnx r (q*zB r+y) l=pnx r y l:=by
    rw [pnx_mod r (q*zB r+y),Nat.mul_comm,Nat.mul_add_mod,← pnx_mod]
   rw [e1,e2]
  constructor
  ·intro h
   obtain⟨n',h1,h2⟩:=h.inv
   obtain⟨q,y,rfl,h3,h4⟩:=(ih n').1 h1
   rw [step q y h3 h4] at h2
   simp only [List.mem_flatMap,List.mem_map] at h2
   obtain⟨q',hq',y',hy',rfl⟩:=h2
   exact⟨q',y',rfl,.snoc h3 hq',.snoc h4 hy'⟩
  ·rintro ⟨q',y',rfl,h1,h2⟩
   obtain⟨q,h3,h4⟩:=h1.inv
   obtain⟨y,h5,h6⟩:=h2.inv
   refine .snoc ((ih (q*zB r+y)).2 ⟨q,y,rfl,h3,h5⟩) ?_
   rw [step q y h3 h5]
   simp only [List.mem_flatMap,List.mem_map]
   exact⟨q',h4,y',h6,rfl⟩
def Runs (s:Sys) (v:List Nat):Prop:=∃ q,Goes (cho s) [0] v q
theorem zfh (a:Aut) (v:List Nat) (q:Nat):Goes (aMem a).2 [0] v q↔q=runA a 0 v:=by
 have key:∀ n (v:List Nat),v.length=n→∀ q,Goes (aMem a).2 [0] v q↔q=runA a 0 v:=by
  intro n
  induction n with
  |zero =>
   intro v hl q
   obtain rfl:=List.eq_nil_of_length_eq_zero hl
   constructor
   ·intro h;have:=h.inv_nil;simp at this;subst this;rfl
   ·rintro rfl;exact .nil (by simp [runA])
  |succ n ih =>
   intro v hl q
   rcases zac v with rfl|⟨u,l,rfl⟩
   ·simp at hl
   rw [zen]
   have ih:=ih u (by simpa using hl)
   constructor
   ·intro h
    obtain⟨q',h1,h2⟩:=h.inv
    rw [(ih q').1 h1] at h2
    simpa [aMem] using h2
   ·rintro rfl
    exact .snoc ((ih _).2 rfl) (by simp [aMem])
 exact key _ v rfl q
theorem goes_nil (v:List Nat) (y:Nat):Goes (pnx []) [0] v y↔y=0:=by
 have key:∀ n (v:List Nat),v.length=n→∀ y,Goes (pnx []) [0] v y↔y=0:=by
  intro n
  induction n with
  |zero =>
   intro v hl y
   obtain rfl:=List.eq_nil_of_length_eq_zero hl
   exact⟨fun h=>by simpa using h.inv_nil,fun h=>.nil (by simp [h])⟩
  |succ n ih =>
   intro v hl y
   rcases zac v with rfl|⟨u,l,rfl⟩
   ·simp at hl
   have ih:=ih u (by simpa using hl)
   constructor
   ·intro h
    obtain⟨q',h1,h2⟩:=h.inv
    simpa [pnx] using h2
   ·rintro rfl
    exact .snoc ((ih 0).2 rfl) (by simp [pnx])
 exact key _ v rfl y
theorem goes_two {a p:Aut}(ha:zg a=true)(hp:zg p=true) {v:List Nat}(hv:∀ l∈v,l<6) (y:Nat):Goes (pnx [aMem a,aMem p]) [0] v y↔y=runA a 0 v*p.next.length+runA p 0 v:=by
 have hpo:∀ m∈[aMem p],zdt m:=by simp;exact zbs hp
 have hP:zB [aMem p]=p.next.length:=by simp [zB,zaj,aMem]
 have h1:∀ z,Goes (pnx [aMem p]) [0] v z↔z=runA p 0 v:=by
  intro z
  rw [zee (zbs hp) (by simp) _ v rfl hv]
  constructor
  ·rintro ⟨q,y,rfl,h1,h2⟩
   rw [(goes_nil v y).1 h2,(zfh p v q).1 h1]
   simp [zB,zaj]
  ·rintro rfl
   exact⟨runA p 0 v,0,by simp [zB,zaj],(zfh p v _).2 rfl,(goes_nil v 0).2 rfl⟩
 rw [zee (zbs ha) hpo _ v rfl hv,hP]
 constructor
 ·rintro ⟨q,y,rfl,h2,h3⟩
  rw [(zfh a v q).1 h2,(h1 y).1 h3]
 ·rintro rfl
  exact⟨_,_,rfl,(zfh a v _).2 rfl,(h1 _).2 rfl⟩
theorem goes_parts {T:List Mem}(hT:∀ m∈T,zdt m) {v:List Nat}(hv:∀ l∈v,l<6) (g:Nat→Prop):∀ {ss:List Sys},(∀ s∈ss,zdt (sMem s))→((∃ x,Goes (pnx (ss.map sMem++T)) [0] v x∧g (x % zB T))↔(∀ s∈ss,Runs s v)∧∃ y,Goes (pnx T) [0] v y∧g y):=by
 intro ss
 induction ss with
 |nil =>
  intro _
  simp only [List.map_nil,List.nil_append,List.not_mem_nil,false_implies,implies_true,true_and]
  constructor
  ·rintro ⟨x,h,hg⟩
   rw [Nat.mod_eq_of_lt (goes_lt hT hv h)] at hg
   exact⟨x,h,hg⟩
  ·rintro ⟨x,h,hg⟩
   exact⟨x,h,by rwa [Nat.mod_eq_of_lt (goes_lt hT hv h)]⟩
 |cons s r ih =>
  intro hs
  have hs0:=hs s List.mem_cons_self
  have hsr:=fun t ht=>hs t (List.mem_cons_of_mem _ ht)
  have ih:=ih hsr
  have hr:∀ m∈r.map sMem++T,zdt m:=by
   intro m hm
   rcases List.mem_append.1 hm with h|h
   ·obtain⟨t,ht,rfl⟩:=List.mem_map.1 h
    exact hsr t ht
   ·exact hT m h
  have hmod:∀ q y,(q*zB (r.map sMem++T)+y) % zB T=y % zB T:=by
   intro q y
   rw [zbn,← Nat.mul_assoc,Nat.mul_comm,Nat.mul_add_mod]
  rw [List.map_cons,List.cons_append]
  constructor
  ·rintro ⟨x,h,hg⟩
   obtain⟨q,y,rfl,h1,h2⟩:=(zee hs0 hr _ v rfl hv x).1 h
   rw [hmod] at hg
   obtain⟨h3,h4⟩:=ih.1 ⟨y,h2,hg⟩
   refine⟨fun t ht=>?_,h4⟩
   rcases List.mem_cons.1 ht with rfl|ht
   ·exact⟨q,h1⟩
   ·exact h3 t ht
  ·rintro ⟨h1,h2⟩
   obtain⟨y,h3,h4⟩:=ih.2 ⟨fun t ht=>h1 t (List.mem_cons_of_mem _ ht),h2⟩
   obtain⟨q,hq⟩:=h1 s List.mem_cons_self
   exact⟨q*zB (r.map sMem++T)+y,(zee hs0 hr _ v rfl hv _).2 ⟨q,y,rfl,hq,h3⟩,by rwa [hmod]⟩
def Breaks (ss:List Sys) (a p:Aut) (v:List Nat):Prop:=(∀ s∈ss,Runs s v)∧accB a (runA a 0 v)=true∧accB p (runA p 0 v)=false
theorem zhe {ss:List Sys} {a p:Aut}(hss:∀ s∈ss,zj s=true)(ha:zg a=true)(hp:zg p=true) :
  vioB ss a p=true↔∃ v,(∀ l∈v,l∈letters (zJ ss|||a.al.toNat) 6)∧Breaks ss a p v:=by
 have hsm:∀ s∈ss,zdt (sMem s):=fun s hs=>zdQ (zci (hss s hs))
 have hT:∀ m∈[aMem a,aMem p],zdt m:=by simp;exact⟨zbs ha,zbs hp⟩
 have hP:zB [aMem a,aMem p]=a.next.length*p.next.length:=by simp [zB,zaj,aMem]
 have a1:=(zi ha).2.1
 have p1:=(zi hp).2.1
 have hgoal:∀ x,brkG a p x=brkG a p (x % zB [aMem a,aMem p]):=by
  intro x
  unfold brkG
  rw [hP,Nat.mod_mul_left_mod,Nat.mul_comm,Nat.mod_mul_right_div_self,Nat.mod_mod]
 have key:∀ v,(∀ l∈v,l<6)→((∃ x,Goes (brkD ss a p) [0] v x∧brkG a p x=true)↔Breaks ss a p v):=by
  intro v hv
  rw [zcG]
  have h1:=goes_parts hT hv (fun y=>brkG a p y=true) hsm
  have h2:(∃ x,Goes (pnx (mems ss [a,p])) [0] v x∧brkG a p x=true)↔(∃ x,Goes (pnx (ss.map sMem++[aMem a,aMem p])) [0] v x∧brkG a p (x % zB [aMem a,aMem p])=true):=by
   constructor
   ·rintro ⟨x,h,hg⟩;exact⟨x,h,by rw [← hgoal];exact hg⟩
   ·rintro ⟨x,h,hg⟩;exact⟨x,h,by rw [hgoal];exact hg⟩
  rw [h2,h1]
  unfold Breaks
  refine and_congr_right fun _=>?_
  have hra:=zfG ha hv (q:=0) (by omega)
  have hrp:=zfG hp hv (q:=0) (by omega)
  have e1:(runA a 0 v*p.next.length+runA p 0 v) / p.next.length % a.next.length=runA a 0 v:=by
   rw [Nat.mul_comm,Nat.mul_add_div (by omega),Nat.div_eq_of_lt hrp,Nat.add_zero,Nat.mod_eq_of_lt hra]
  have e2:(runA a 0 v*p.next.length+runA p 0 v) % p.next.length=runA p 0 v:=by
   rw [Nat.mul_comm,Nat.mul_add_mod,Nat.mod_eq_of_lt hrp]
  constructor
  ·rintro ⟨y,hy,hg⟩
   rw [(goes_two ha hp hv y).1 hy] at hg
   unfold brkG at hg
   rw [e1,e2] at hg
   simpa using hg
  ·intro hg
   refine⟨_,(goes_two ha hp hv _).2 rfl,?_⟩
   unfold brkG
   rw [e1,e2]
   simpa using hg
 unfold vioB lostB
 rw [Bool.not_eq_true',@decide_eq_false_iff_not _ (Classical.propDecidable _)]
 constructor
 ·intro hn
  apply Classical.byContradiction
  intro hno
  refine hn fun v hv x hx=>?_
  cases hb:brkG a p x
  ·rfl
  ·exact absurd ⟨v,hv,(key v (fun l hl=>zbB _ l (hv l hl))).1 ⟨x,hx,hb⟩⟩ hno
 ·rintro ⟨v,hv,hB⟩ hl
  obtain⟨x,hx,hg⟩:=(key v (fun l hl=>zbB _ l (hv l hl))).2 hB
  have:=hl v hv x hx
  rw [hg] at this
  cases this
def hidL (s:Sys) (A l:Nat):Prop:=l<6∧s.al.toNat.testBit l=true∧A.testBit l=false
inductive Cl (s:Sys) (p:Aut) (A:Nat) (B:Nat→Nat→Prop):Nat→Nat→Prop
 |base {q i:Nat} (h:B q i):Cl s p A B q i
 |hid {q i l q':Nat} (h:Cl s p A B q i) (hl:hidL s A l) (hq:q'∈cho s q l):Cl s p A B q' (aGo p i l)
def mvB (s:Sys) (p:Aut) (l:Nat) (B:Nat→Nat→Prop):Nat→Nat→Prop:=fun q' j=>∃ q i,B q i∧q'∈cho s q l∧j=aGo p i l
def prR (s:Sys) (p:Aut) (A:Nat):List Nat→Nat→Nat→Prop
 |[]=>Cl s p A (fun q i=>q=0∧i=0)
 |l :: r=>Cl s p A (mvB s p l (prR s p A r))
def PR (s:Sys) (p:Aut) (A:Nat) (v:List Nat):Nat→Nat→Prop:=prR s p A v.reverse
theorem PR_snoc (s:Sys) (p:Aut) (A:Nat) (v:List Nat) (l:Nat):PR s p A (v++[l])=Cl s p A (mvB s p l (PR s p A v)):=by
 unfold PR
 rw [List.reverse_append]
 rfl
def Bad (s:Sys) (p:Aut) (A:Nat) (v:List Nat):Prop:=∃ q i,PR s p A v q i∧accB p i=false
def SafeW (s:Sys) (p:Aut) (A:Nat) (v:List Nat):Prop:=∀ k,k≤v.length→¬ Bad s p A (v.take k)
theorem zgY {s:Sys}(hs:Sml s) {l:Nat}(hb:s.al.toNat.testBit l=true) (set q':Nat):(zcW s.edges set (l:Int)).testBit q'=true↔∃ q,set.testBit q=true∧q'∈cho s q l:=by
 obtain⟨h1,h2,hf,-⟩:=hs
 rw [stepB_bit]
 constructor
 ·rintro ⟨e,he,⟨h3,h4⟩,rfl⟩
  obtain⟨hfr,hle,hto⟩:=hf e he
  refine⟨e.fr.toNat,h4,?_⟩
  unfold cho
  rw [if_pos hb,zD]
  refine⟨by omega,(zds _ _ _ _).2 ⟨e,he,?_,rfl⟩⟩
  exact⟨by omega,h3⟩
 ·rintro ⟨q,h3,h4⟩
  unfold cho at h4
  rw [if_pos hb,zD] at h4
  obtain⟨e,he,⟨h5,h6⟩,h7⟩:=(zds _ _ _ _).1 h4.2
  exact⟨e,he,⟨h6,by rw [h5];simpa using h3⟩,h7⟩
theorem zgv {s:Sys}(hs:Sml s) (x:Nat) (l:Int):zcW s.edges x l<65536:=by
 have h1:=stepB_lt hs.2.2.1 x l
 have h2:(2:Nat) ^ s.st.toNat≤2 ^ 16:=Nat.pow_le_pow_right (by omega) (by have:=hs.2.1;omega)
 exact Nat.lt_of_lt_of_le h1 h2
def bitS (T:List Nat) (i q:Nat):Prop:=(T.getD i 0).testBit q=true
theorem bitS_lt {T:List Nat} {i q:Nat}(h:bitS T i q):i<T.length:=by
 rcases Nat.lt_or_ge i T.length with h1|h1
 ·exact h1
 ·unfold bitS at h
  rw [List.getD_eq_getElem?_getD,List.getElem?_eq_none h1] at h
  simp at h
theorem zgA {T:List Nat} {j:Nat}(hj:j<T.length) (x i q:Nat):bitS (T.set j (T.getD j 0|||x)) i q↔bitS T i q∨(i=j∧x.testBit q=true):=by
 unfold bitS
 by_cases h:j=i
 ·subst h
  rw [List.getD_eq_getElem?_getD,List.getElem?_set_self hj,Option.getD_some,Nat.testBit_or,Bool.or_eq_true]
  simp
 ·rw [List.getD_eq_getElem?_getD,List.getElem?_set_ne h,← List.getD_eq_getElem?_getD]
  constructor
  ·exact .inl
  ·rintro (h1|⟨h1,-⟩)
   ·exact h1
   ·exact absurd h1.symm h
def zdD (T:List Nat) (n:Nat) (B:Nat→Nat→Prop):Prop:=T.length=n∧(∀ x∈T,x<65536)∧∀ i q,bitS T i q↔B q i
structure ClI (s:Sys) (p:Aut) (A:Nat) (B:Nat→Nat→Prop) (n:Nat) (T:List Nat):Prop where
 len:T.length=n
 lt:∀ x∈T,x<65536
 base:∀ q i,B q i→bitS T i q
 sub:∀ i q,bitS T i q→Cl s p A B q i
def zdl (s:Sys) (p:Aut) (T:List Nat) (i l:Nat):Prop:=∀ q,bitS T i q→∀ q'∈cho s q l,bitS T (aGo p i l) q'
section
variable {s:Sys} {p:Aut} {A n:Nat} {B:Nat→Nat→Prop} {T:List Nat}
theorem zdD.clI (h:zdD T n B):ClI s p A B n T:=⟨h.1,h.2.1,fun q i hb=>(h.2.2 i q).2 hb,fun i q hb=>.base ((h.2.2 i q).1 hb)⟩
theorem zdJ (h:∀ x∈T,x<65536) (i:Nat):T.getD i 0<65536:=by
 rw [List.getD_eq_getElem?_getD]
 cases h1:T[i]? with
 |none=>simp
 |some x=>exact h x (List.mem_of_getElem? h1)
theorem ClI.step (h:ClI s p A B n T)(hs:Sml s)(hp:zg p=true)(hn:n=p.next.length) {i l:Nat}(hi:i<n)(hl:hidL s A l) :
  ClI s p A B n (T.set (aGo p i l) (T.getD (aGo p i l) 0|||zcW s.edges (T.getD i 0) (l:Int))):=by
 have hj:aGo p i l<T.length:=by rw [h.len,hn];exact zdW hp (by omega) hl.1
 refine⟨by rw [List.length_set];exact h.len,fun x hx=>?_,fun q i' hb=>(zgA hj _ _ _).2 (.inl (h.base q i' hb)),fun i' q hb=>?_⟩
 ·rcases List.mem_or_eq_of_mem_set hx with hx|rfl
  ·exact h.lt x hx
  ·exact Nat.or_lt_two_pow (n:=16) (zdJ h.lt _) (Nat.lt_of_lt_of_le (stepB_lt hs.2.2.1 _ _) (Nat.pow_le_pow_right (by omega) (by have:=hs.2.1;omega)))
 ·rcases (zgA hj _ _ _).1 hb with hb1|⟨rfl,hb1⟩
  ·exact h.sub _ _ hb1
  ·obtain⟨q0,h1,h2⟩:=(zgY hs hl.2.1 _ _).1 hb1
   exact .hid (h.sub _ _ h1) hl h2
theorem closedAt_of (hs:Sml s) {i l:Nat}(hl:hidL s A l)(he:T.getD (aGo p i l) 0|||zcW s.edges (T.getD i 0) (l:Int)=T.getD (aGo p i l) 0):zdl s p T i l:=by
 intro q hq q' hq'
 unfold bitS
 rw [← he,Nat.testBit_or,(zgY hs hl.2.1 _ _).2 ⟨q,hq,hq'⟩,Bool.or_true]
theorem ClI.fin (h:ClI s p A B n T)(hc:∀ i l,i<n→hidL s A l→zdl s p T i l):zdD T n (Cl s p A B):=by
 refine⟨h.len,h.lt,fun i q=>⟨h.sub i q,fun hb=>?_⟩⟩
 induction hb with
 |base hb=>exact h.base _ _ hb
 |hid _ hl hq ih=>exact hc _ _ (by rw [← h.len];exact bitS_lt ih) hl _ ih _ hq
end
def room:List Nat→Nat
 |[]=>0
 |x :: r=>(65536 - x)+room r
theorem room_set:∀ (T:List Nat) (j x:Nat),(T.getD j 0|||x)<65536→room (T.set j (T.getD j 0|||x))≤room T∧(j<T.length→T.getD j 0|||x≠T.getD j 0→room (T.set j (T.getD j 0|||x))<room T)
 |[],j,x,_=>by simp [room]
 |a :: r,0,x,h=>by
  simp only [List.getD_cons_zero,List.set_cons_zero,room] at h ⊢
  have h1:a≤a|||x:=Nat.left_le_or
  refine⟨by omega,fun _ h2=>by omega⟩
 |a :: r,j+1,x,h=>by
  simp only [List.getD_cons_succ,List.set_cons_succ,room,List.length_cons] at h ⊢
  obtain⟨h1,h2⟩:=room_set r j x h
  refine⟨by omega,fun h3 h4=>by have:=h2 (by omega) h4;omega⟩
theorem sub_bit {a b:Nat}(ha:a<64)(hb:b<64) (l:Nat):l∈letters (a - (a&&&b)) 6↔l<6∧a.testBit l=true∧b.testBit l=false:=by
 rw [zD]
 refine and_congr_right fun hl=>?_
 have key:∀ a<64,∀ b<64,∀ l<6,((a - (a&&&b)).testBit l=true↔a.testBit l=true∧b.testBit l=false):=by decide +kernel
 exact key a ha b hb l hl
theorem stand_bad {s:Sys} {p:Aut} {A n:Nat} {v:List Nat} {T:List Nat}(h:zdD T n (PR s p A v)):Bad s p A v↔∃ i,i<n∧T.getD i 0≠0∧accB p i=false:=by
 constructor
 ·rintro ⟨q,i,h1,h2⟩
  have hb:=(h.2.2 i q).2 h1
  refine⟨i,by rw [← h.1];exact bitS_lt hb,fun e=>?_,h2⟩
  unfold bitS at hb
  rw [e] at hb
  simp at hb
 ·rintro ⟨i,hi,h1,h2⟩
  obtain⟨q,hq⟩:=Nat.exists_testBit_of_ne_zero h1
  exact⟨q,i,(h.2.2 i q).1 hq,h2⟩
theorem stand_start {n:Nat}(hn:1≤n):zdD ((List.replicate n 0).set 0 1) n (fun q i=>q=0∧i=0):=by
 refine⟨by simp,fun x hx=>?_,fun i q=>?_⟩
 ·rcases List.mem_or_eq_of_mem_set hx with hx|rfl
  ·rw [List.mem_replicate] at hx;omega
  ·omega
 ·unfold bitS
  rw [List.getD_eq_getElem?_getD]
  by_cases h:i=0
  ·subst h
   rw [List.getElem?_set_self (by rw [List.length_replicate];omega),Option.getD_some]
   constructor
   ·intro h;exact⟨by cases q with|zero=>rfl|succ q=>simp [Nat.testBit_succ] at h,rfl⟩
   ·rintro ⟨rfl,-⟩;rfl
  ·rw [List.getElem?_set_ne (by omega)]
   constructor
   ·intro h
    cases h1:(List.replicate n 0)[i]? with
    |none=>rw [h1] at h;simp at h
    |some x =>
     have:=List.mem_of_getElem? h1
     rw [List.mem_replicate] at this
     rw [h1,this.2] at h
     simp at h
   ·rintro ⟨_,h1⟩;exact absurd h1 h
set_option maxHeartbeats 1000000
theorem zgG (l:List Int):∀ u∈ints l,u.oneCell'=true:=by
 intro u hu
 obtain⟨x,_,rfl⟩:=List.mem_map.1 hu
 rfl
theorem zft (l:List Bool):∀ u∈zaz l,u.oneCell'=true:=by
 intro u hu
 obtain⟨x,_,rfl⟩:=List.mem_map.1 hu
 rfl
set_option maxHeartbeats 2000000
theorem zaa (W:World) (Z:Nat) (u0 u1 u2:Value):Frm (fun k=>k=Z) W (((W.setCell ⟨Z,0,none⟩ u0).setCell ⟨Z,1,none⟩ u1).setCell ⟨Z,2,none⟩ u2):=
 ((Frm.setCell W Z 0 u0).trans (Frm.setCell _ Z 1 u1)).trans (Frm.setCell _ Z 2 u2)
theorem zah {w:World} {Z:Nat} {cs:Array Value} {t:TypeId}(h:Blk w Z t cs)(hc:cs.size=3) (u0 u1 u2:Value):Blk (((w.setCell ⟨Z,0,none⟩ u0).setCell ⟨Z,1,none⟩ u1).setCell ⟨Z,2,none⟩ u2) Z t #[u0,u1,u2]:=by
 obtain⟨l⟩:=cs
 match l,hc with
 |[a,b,c],_=>simpa using ((h.set_ 0 u0).set_ 1 u1).set_ 2 u2
theorem zo {w:World} {base:Nat} {e t:TypeId} {size n G:Nat} {v:Value} {xs:List Value} {cs:Array Value}(h:w.ownsRow base e size v n xs)(hB:Blk w G t cs)(hne:e≠t) {b:Nat}(hv:v.ownBlock=some b):b≠G:=by
 rintro rfl
 rcases h.2 with ⟨rfl,_⟩|⟨g,cap,cur,rfl,_,hh,_⟩
 ·simp [Value.ownBlock] at hv
 ·have hg:g=b:=by simpa [Value.ownBlock] using hv
  subst hg
  unfold Blk at hB
  rw [hh] at hB
  injection hB with hB
  injection hB with _ ht
  exact absurd ht hne
structure Gra (w0 W:World) (G:Nat) (al:Int) (v:Value) (ls:List (List Int)) (vA:Value) (acc:List Bool):Prop where
 blk:Blk W G 27 #[.int .i64 al,v,vA]
 own:zdV W w0.heap.size v ls
 acc:W.ownsRow w0.heap.size 4 1 vA acc.length (zaz acc)
 ext:Ext w0 W
 hG:w0.heap.size≤G
section
variable {w0 W W':World} {G:Nat} {al:Int} {v vA:Value} {ls:List (List Int)} {acc:List Bool}
theorem Gra.ext_ (h:Gra w0 W G al v ls vA acc)(hb:Ext W W'):Gra w0 W' G al v ls vA acc:=⟨h.blk.ext hb,h.own.ext hb,zf h.acc hb,h.ext.trans hb,h.hG⟩
theorem Gra.push {W1:World} {rows:List Value} {row:Value} {l:List Int} {g cap:Nat}(h:Gra w0 W G al v ls vA acc)(hrows:zH W w0.heap.size rows ls)(hv:W.ownsRow w0.heap.size 71 1 v ls.length rows)
  (hx:Ext W W1) (hrow:W1.ownsRow W.heap.size 3 1 row l.length (ints l))
  (hown:W'.ownsRow w0.heap.size 71 1 (.slice (some ⟨g,0,none⟩) (ls.length+1) cap) (ls.length+1) (rows++[row]))
  (hg:W1.grownBy W' v.ownBlock) (hat:v.ownBlock=some g∨g=W1.heap.size+1) :
  Hid (W'.cell? ⟨G,1,none⟩=some v)∧W'.frozen? ⟨G,1,none⟩=false∧Gra w0 (W'.setCell ⟨G,1,none⟩ (.slice (some ⟨g,0,none⟩) (ls.length+1) cap)) G al (.slice (some ⟨g,0,none⟩) (ls.length+1) cap) (ls++[l]) vA acc:=by
 have hB1:=h.blk.ext hx
 have hv1:=zf hv hx
 have hB:Blk W' G 27 #[.int .i64 al,v,vA]:=(hg.block G hB1.lt (fun e=>zo hv1 hB1 (by decide) e.symm rfl)).trans hB1
 have hgG:g≠G:=by
  rcases hat with h1|h1
  ·exact zo hv1 hB1 (by decide) h1
  ·have:=hB1.lt;omega
 have hx':Ext w0 W':=(h.ext.trans hx).grown hg (fun k hk=>(hv1.lt k hk).1)
 have hr1:=hrows.snoc hx (h.ext.size) hrow
 have hfr:Frm (fun k=>v.ownBlock=some k) W1 W':=Frm.of_grown hg
 have hr2:zH W' w0.heap.size (rows++[row]) (ls++[l]):=hr1.frm hfr (fun i r b hr hb hS=>by
  obtain⟨l',_,ho⟩:=hr1.row hr
  exact zaT ho hv1 (by decide) hb hS)
 have hacc:W'.ownsRow w0.heap.size 4 1 vA acc.length (zaz acc):=ze (zf h.acc hx) hfr (fun b hb hS=>zaT (zf h.acc hx) hv1 (by decide) hb hS)
 have hset:=Frm.setCell W' G 1 (.slice (some ⟨g,0,none⟩) (ls.length+1) cap)
 refine⟨hB.cell 1,hB.frozen 1,⟨by simpa using hB.set_ 1 _,⟨rows++[row],?_,?_⟩,?_,hx'.setCell (p:=⟨G,1,none⟩) h.hG _,h.hG⟩⟩
 ·rw [List.length_append,List.length_singleton]
  exact ze hown hset (fun b hv hS=>by
   have:g=b:=by simpa [Value.ownBlock] using hv
   omega)
 ·refine hr2.frm hset (fun i r b hr hb hS=>?_)
  obtain⟨l',_,ho⟩:=hr2.row hr
  exact zo ho hB (by decide) hb hS
 ·exact ze hacc hset (fun b hb hS=>zo hacc hB (by decide) hb hS)
end
set_option maxHeartbeats 4000000
def memT (W:World) (g n:Nat):List Nat:=(List.range n).map fun j=>match W.cell? ⟨g,j,none⟩ with|some (.int _ z)=>z.toNat|_=>0
theorem memT_own {W:World} {base g n c:Nat} {T:List Nat}(h:W.ownsRow base 3 1 (.slice (some ⟨g,0,none⟩) n c) n (nats T))(hT:T.length=n):memT W g n=T:=by
 refine List.ext_getElem? fun j=>?_
 unfold memT
 rw [List.getElem?_map]
 rcases Nat.lt_or_ge j n with hj|hj
 ·rw [List.getElem?_range hj,Option.map_some,h.cellAt j (by omega),show (nats T)[j]?=T[j]?.map (fun x=>Value.int .i64 (x:Nat)) by simp [nats]]
  rw [List.getElem?_eq_getElem (by omega)]
  simp
 ·rw [List.getElem?_eq_none (by simpa using hj),List.getElem?_eq_none (by omega)]
  rfl
theorem zcK {W:World} {base g n c j:Nat} {T:List Nat}(h:W.ownsRow base 3 1 (.slice (some ⟨g,0,none⟩) n c) n (nats T))(hj:j<n):W.cell? ⟨g,j,none⟩=some (.int .i64 (T.getD j 0:Nat)):=by
 have hl:=zeB h
 have hT:T.length=n:=by simpa [nats] using hl
 rw [h.cellAt j (by omega),show (nats T)[j]?=T[j]?.map (fun x=>Value.int .i64 (x:Nat)) by simp [nats],List.getD_eq_getElem?_getD,List.getElem?_eq_getElem (by omega)]
 simp
def RetSets (g N cc base:Nat) (Q:Nat→Nat→Prop) (w:World) (e:Ending) (w':World):Prop:=
 ∃ T':List Nat,e=.returned (.slice (some ⟨g,0,none⟩) N cc)∧w'.ownsRow base 3 1 (.slice (some ⟨g,0,none⟩) N cc) N (nats T')∧zdD T' N Q∧Frm (fun k=>k=g) w w'
section
variable {w:World} {lo hi n c m d m' d' L:Nat} {A B B':Option Addr} {s:Sys} {p:Aut}
set_option maxRecDepth 100000 in
theorem zeQ {base g N cc:Nat} {T:List Nat} {Bs:Nat→Nat→Prop}(hS:zQ w lo hi A n s)(hP:zF w lo hi B m B' m' p)(hv:zj s=true)(hp:zg p=true)(hL:L<64)(hN:N=p.next.length)
  (hg:hi≤base) (hown:w.ownsRow base 3 1 (.slice (some ⟨g,0,none⟩) N cc) N (nats T)) (hT:zdD T N Bs) :
  Calls Tryz.prog 197 #[.agg #[.int .i64 s.al,.int .i64 s.st,.slice A n c,.int .i64 p.al,.slice B m d,.slice B' m' d',.int .i64 L],.slice (some ⟨g,0,none⟩) N cc] w (RetSets g N cc base (Cl s p L Bs) w):=by
 have hsm:=zci hv
 obtain⟨ha0,ha1⟩:=zI hv
 obtain⟨al,hal⟩:∃ al:Nat,Hid (s.al=al):=⟨s.al.toNat,by unfold Hid;omega⟩
 have hal64:al<64:=by have:=hal.out;omega
 have hN12:N≤12:=by have:=(zi hp).2.1;omega
 have hg0:=(hown.lt g rfl).1
 have hgw:=(hown.lt g rfl).2
 have HN:=hide hN
 have Han:=hide (zbt (a:=al) (b:=L) (by unfold Sm;omega) (by unfold Sm;omega))
 have hle:al&&&L≤al:=Nat.and_le_left
 have hsub:(al:Int) - ((al&&&L:Nat):Int)=((al - (al&&&L):Nat):Int):=by omega
 have Hsub:=hide hsub
 clear hsub
 have Hbit:=hide (fun l=>sub_bit hal64 hL l)
 have hw1:Ext w (w.alloc (.cells #[.int .i64 s.al,.int .i64 s.st,.slice A n c,.int .i64 p.al,.slice B m d,.slice B' m' d',.int .i64 L] 98)):=(Ext.refl _).alloc _
 have b1:=Blk.new w 98 #[.int .i64 s.al,.int .i64 s.st,.slice A n c,.int .i64 p.al,.slice B m d,.slice B' m' d',.int .i64 L]
 have han:=Han.out
 have k1:=b1.cell
 clear hN
 go_enter Tryz.func197,Tryz.ntmps197
 go_upto_region 1 with fail
 generalize w.alloc (.cells #[.int .i64 s.al,.int .i64 s.st,.slice A n c,.int .i64 p.al,.slice B m d,.slice B' m' d',.int .i64 L] 98)=w1 at *
 rw [hal.out] at k1
 go_wp2_with fail
 rw [Hsub.out]
 refine (zS (al - (al&&&L)) (by unfold Sm;omega) _).mono ?_
 rintro e w2 ⟨HA,hc,rfl,hownH,hx2⟩
 have Hbit:=hide (fun l=>(sub_bit hal64 hL l).trans (show l<6∧al.testBit l=true∧L.testBit l=false↔hidL s L l by unfold hidL;rw [hal.out];rfl))
 generalize letters (al - (al&&&L)) 6=hs at *
 have hhl:hs.length≤9223372036854775807:=(Reads.of_own hownH).len
 have hfr2:Frm (fun k=>k=g) w w2:=(hw1.trans hx2).toFrm
 have hown2:=zf hown (hw1.trans hx2)
 have hb2:=b1.ext hx2
 have hcl:=hT.clI (s:=s) (p:=p) (A:=L)
 clear hown hT k1 b1
 go_wp2_with fail
 go_loopw [6] (fun mv wr=>∃ (mb:Bool) (T:List Nat),mv=.bool mb∧Hid (ClI s p L Bs N T)∧Hid (mb=false→∀ i l,i<N→hidL s L l→zdl s p T i l)∧wr.ownsRow base 3 1 (.slice (some ⟨g,0,none⟩) N cc) N (nats T)∧Frm (fun k=>k=g) w2 wr) (fun mv wr=>room (memT wr g N)+(match mv with | .bool true=>1|_=>0))
 case atStart=>exact⟨true,T,rfl,hide hcl,hide (fun h=>by cases h),hown2,Frm.refl _ _⟩
 case round =>
  clear hcl hown2
  obtain⟨mb,T,rfl,hcl,hdone,hown,hfr⟩:=hrel
  have hmem:=hide (memT_own hown hcl.out.len)
  cases mb
  ·have hfin:=hide (hcl.out.fin (hdone.out rfl))
   go_wp2_with fail
   go_ret
   exact⟨T,rfl,hown,hfin.out,hfr2.trans hfr⟩
  ·go_wp2_with fail
   go_loopw [6,7] (fun mv iv wq=>∃ (mb:Bool) (i:Nat) (T1:List Nat),mv=.bool mb∧iv=.int .i64 i∧i≤N∧Hid (ClI s p L Bs N T1)∧Hid (room T1≤room T∧(mb=true→room T1<room T))∧Hid (mb=false→∀ i' l,i'<i→hidL s L l→zdl s p T1 i' l)∧wq.ownsRow base 3 1 (.slice (some ⟨g,0,none⟩) N cc) N (nats T1)∧Frm (fun k=>k=g) w2 wq) (fun _ iv _=>N - (intOf iv).toNat)
   case atStart=>exact⟨false,0,T,rfl,rfl,Nat.zero_le _,hcl,hide ⟨Nat.le_refl _,fun h=>by cases h⟩,hide (fun _ i' l h=>by omega),hown,hfr⟩
   case round =>
    clear hcl hown hfr hdone
    obtain⟨mb,i,T1,rfl,rfl,hi,hcl,hroom,hdone,hown,hfr⟩:=hrel
    by_cases hlt:i<N
    ·have hlt':(i:Int)<(N:Int):=by omega
     go_wp2_with fail
     go_loopw [6,8] (fun mv kv wq=>∃ (mb:Bool) (k:Nat) (T1:List Nat),mv=.bool mb∧kv=.int .i64 k∧k≤hs.length∧Hid (ClI s p L Bs N T1)∧Hid (room T1≤room T∧(mb=true→room T1<room T))∧Hid (mb=false→(∀ i' l,i'<i→hidL s L l→zdl s p T1 i' l)∧∀ (k' l:Nat),k'<k→hs[k']?=some l→zdl s p T1 i l)∧wq.ownsRow base 3 1 (.slice (some ⟨g,0,none⟩) N cc) N (nats T1)∧Frm (fun k=>k=g) w2 wq) (fun _ kv _=>hs.length - (intOf kv).toNat)
     case atStart=>exact⟨mb,0,T1,rfl,rfl,Nat.zero_le _,hcl,hroom,hide (fun h=>⟨hdone.out h,fun k' l h=>by omega⟩),hown,hfr⟩
     case round =>
      clear hcl hroom hdone hown hfr
      obtain⟨mb,k,T1,rfl,rfl,hk,hcl,hroom,hdone,hown,hfr⟩:=hrel
      by_cases hkl:k<hs.length
      ·have hkl':(k:Int)<(hs.length:Int):=by omega
       obtain⟨l,hl⟩:∃ l,hs[k]?=some l:=⟨_,List.getElem?_eq_getElem hkl⟩
       have hhid:=(Hbit.out l).1 (List.mem_of_getElem? hl)
       have hl6:=hhid.1
       have hjN:aGo p i l<N:=by rw [HN.out];exact zdW hp (by rw [← HN.out];exact hlt) hl6
       obtain⟨gh,rfl,hgh,-⟩:=zai hownH (by omega)
       have hownH2:=zay hownH hfr (fun b h1 e=>by have:=hw1.size;omega)
       have cH:=zcK hownH2 hkl
       rw [List.getD_eq_getElem?_getD,hl,Option.getD_some] at cH
       have CH:∀ W,Ext wr W→W.cell? ⟨gh,k,none⟩=some (.int .i64 (l:Nat)):=fun W hW=>hW.cell_some cH
       have CB:∀ W,Ext wr W→∀ q,W.cell? ⟨w.heap.size,q,none⟩=#[Value.int .i64 s.al,.int .i64 s.st,.slice A n c,.int .i64 p.al,.slice B m d,.slice B' m' d',.int .i64 L][q]?:=fun W hW=>((hb2.frm hfr (by omega)).ext hW).cell
       have CI:∀ W,Ext wr W→W.cell? ⟨g,i,none⟩=some (.int .i64 (T1.getD i 0:Nat)):=fun W hW=>hW.cell_some (zcK hown hlt)
       have HPq:=hide (fun W (hW:Ext wr W)=>((hP.ext (hw1.trans hx2)).frm hfr (fun k h1 h2 e=>by omega)).ext hW)
       have HSq:=hide (fun W (hW:Ext wr W)=>((hS.ext (hw1.trans hx2)).frm hfr (fun k h1 h2 e=>by omega)).ext hW)
       have Hl:=hide hl
       have hww:=Ext.refl wr
       clear hl cH hownH2
       go_wp2_with fail
       go_region_held3 (fun W=>Ext wr W) (first|assumption|(refine Ext.drew ?_;assumption)|(refine Ext.trans ?_ (by assumption);assumption)|(refine Ext.trans ?_ (by assumption);refine Ext.drew ?_;assumption)) (first|(go_at_call 198;refine (zcA (HPq.out _ ?_) hp (by rw [← HN.out];exact hlt) hl6).mono ?_;(first|assumption|(refine Ext.drew ?_;assumption));rintro e w3 ⟨rfl,hx3⟩))
       have hwq3:Ext wr w3:=by assumption
       obtain⟨j,hj⟩:∃ j,Hid (aGo p i l=j):=⟨_,rfl⟩
       rw [hj.out] at hjN ⊢
       have CJ:∀ W,Ext wr W→W.cell? ⟨g,j,none⟩=some (.int .i64 (T1.getD j 0:Nat)):=fun W hW=>hW.cell_some (zcK hown hjN)
       obtain⟨x,hx⟩:∃ x,Hid (T1.getD i 0=x):=⟨_,rfl⟩
       obtain⟨y,hy⟩:∃ y,Hid (T1.getD j 0=y):=⟨_,rfl⟩
       have hx16:x<65536:=by rw [← hx.out];exact zdJ hcl.out.lt i
       have hy16:y<65536:=by rw [← hy.out];exact zdJ hcl.out.lt j
       rw [hx.out] at CI
       rw [hy.out] at CJ
       have hst16:zcW s.edges x (l:Int)<65536:=zgv hsm _ _
       obtain⟨z,hz⟩:∃ z,Hid (zcW s.edges x (l:Int)=z):=⟨_,rfl⟩
       rw [hz.out] at hst16
       have hor:=zaO (a:=y) (b:=z) (by unfold Sm;omega) (by unfold Sm;omega)
       have hjN':(j:Int)<(N:Int):=by omega
       obtain⟨u,hu⟩:∃ u,Hid (y|||z=u):=⟨_,rfl⟩
       have hu16:u<65536:=by rw [← hu.out];exact Nat.or_lt_two_pow (n:=16) hy16 hst16
       rw [hu.out] at hor
       go_wp2_with fail
       go_region_held3 (fun W=>Ext wr W) (first|assumption|(refine Ext.drew ?_;assumption)|(refine Ext.trans ?_ (by assumption);assumption)|(refine Ext.trans ?_ (by assumption);refine Ext.drew ?_;assumption)) (first|(go_at_call 129;refine (zfO (c:=c) (k0:=s.st.toNat) (HSq.out _ ?_) hsm.2.2.1 (by have:=hsm.2.1;omega) (by unfold Sm;omega)).mono ?_;(first|assumption|(refine Ext.drew ?_;assumption));rw [hz.out];rintro e w4 ⟨rfl,hx4⟩))
       have hwq4:Ext wr w4:=by assumption
       have cJ:=CJ w4 hwq4
       have hfr4:=hfr.ext hwq4
       have hown4:=zf hown hwq4
       have heqT:T1.getD (aGo p i l) 0|||zcW s.edges (T1.getD i 0) (l:Int)=u:=by rw [hj.out,hx.out,hy.out,hz.out,hu.out]
       have HeqT:=hide heqT
       have hstep:=hcl.out.step hsm hp HN.out hlt hhid
       rw [heqT,hj.out] at hstep
       have Hstep:=hide hstep
       clear heqT hstep CH CB CI CJ
       by_cases he:u=y
       ·have Hcl:=hide (closedAt_of (T:=T1) (p:=p) (i:=i) hsm hhid (by rw [HeqT.out,hj.out,hy.out,he]))
        have hne:((u:Int) != (y:Int))=false:=by rw [he];simp
        clear he
        go_wp2_with fail
        go_roundw
        case rel=>exact⟨mb,k+1,T1,rfl,by go_num,by omega,hcl,hroom,hide (fun h=>⟨(hdone.out h).1,fun k' l' hk' hl'=>by
         rcases Nat.lt_or_eq_of_le (Nat.le_of_lt_succ hk') with h1|rfl
         ·exact (hdone.out h).2 k' l' h1 hl'
         ·rw [Hl.out] at hl'
          obtain rfl:=Option.some.inj hl'
          exact Hcl.out⟩),hown4,hfr4⟩
        case measure=>simp [intOf];omega
       ·have hne:((u:Int) != (y:Int))=true:=by simp;omega
        have hrs:=room_set T1 j z (by rw [hy.out,hu.out];exact hu16)
        rw [hy.out,hu.out] at hrs
        have hrs2:=hrs.2 (by rw [hcl.out.len];exact hjN) he
        have Hrs:=hide hrs2
        have hst:=(hown4.stored j (.int .i64 (u:Nat))).1
        rw [← zfj] at hst
        have hfz:=hown4.frozenAt j
        clear hrs hrs2 he
        go_wp2_with fail
        go_roundw
        case rel=>exact⟨true,k+1,T1.set j u,rfl,by go_num,by omega,hide Hstep.out,hide ⟨by have:=Hrs.out;have:=hroom.out.1;omega,fun _=>by have:=Hrs.out;have:=hroom.out.1;omega⟩,hide (fun h=>by cases h),hst,hfr4.trans (Frm.setCell _ g j _)⟩
        case measure=>simp [intOf];omega
      ·go_wp2_with fail
       go_roundw
       case rel=>exact⟨mb,i+1,T1,rfl,by go_num,by omega,hcl,hroom,hide (fun h i' l hi' hl=>by
        rcases Nat.lt_or_eq_of_le (Nat.le_of_lt_succ hi') with h1|rfl
        ·exact (hdone.out h).1 i' l h1 hl
        ·obtain⟨k',hk'⟩:=List.getElem?_of_mem ((Hbit.out l).2 hl)
         exact (hdone.out h).2 k' l (by have:=(List.getElem?_eq_some_iff.1 hk').1;omega) hk'),hown,hfr⟩
       case measure=>simp [intOf];omega
    ·go_wp2_with fail
     have hmem1:=hide (memT_own hown hcl.out.len)
     go_roundw
     case rel=>exact⟨mb,T1,rfl,hcl,hide (fun h i l hi hl=>hdone.out h i l (by omega) hl),hown,hfr⟩
     case measure =>
      rw [hmem.out,hmem1.out]
      have h1:=hroom.out
      cases mb
      ·simp;omega
      ·have:=h1.2 rfl
       simp;omega
end
theorem Frm.grownG {T:Nat→Prop} {w W W':World} {row:Option Nat}(h:Frm T w W)(hg:W.grownBy W' row)(hr:∀ k,row=some k→w.heap.size≤k):Frm T w W':=
 ⟨hg.os.trans h.os,hg.tape.trans h.tape,hg.output.trans h.output,Nat.le_trans h.size hg.size,fun k hk hn=>(hg.block k (Nat.lt_of_lt_of_le hk h.size) (fun e=>by have:=hr k e.symm;omega)).trans (h.block k hk hn)⟩
structure Gr2 (w0 W:World) (G:Nat) (al st:Int) (v:Value) (es:List Edg):Prop where
 blk:Blk W G 39 #[.int .i64 al,.int .i64 st,v]
 own:W.ownsRow w0.heap.size 126 3 v es.length (zp es)
 fr:Frm (fun k=>k=G) w0 W
 hG:G<w0.heap.size
theorem Gr2.ext_ {w0 W W':World} {G:Nat} {al st:Int} {v:Value} {es:List Edg}(h:Gr2 w0 W G al st v es)(hb:Ext W W'):Gr2 w0 W' G al st v es:=⟨h.blk.ext hb,zf h.own hb,h.fr.ext hb,h.hG⟩
theorem Gr2.push {w0 W W':World} {G:Nat} {al st:Int} {v:Value} {es:List Edg} {g cap:Nat} {e:Edg}(h:Gr2 w0 W G al st v es)(hown:W'.ownsRow w0.heap.size 126 3 (.slice (some ⟨g,0,none⟩) (es.length+1) cap) (es.length+1) (zp es++[.int .i64 e.fr,.int .i64 e.le,.int .i64 e.ta]))
  (hg:W.grownBy W' v.ownBlock) :
  Hid (W'.cell? ⟨G,2,none⟩=some v)∧W'.frozen? ⟨G,2,none⟩=false∧Gr2 w0 (W'.setCell ⟨G,2,none⟩ (.slice (some ⟨g,0,none⟩) (es.length+1) cap)) G al st (.slice (some ⟨g,0,none⟩) (es.length+1) cap) (es++[e]):=by
 have hB:Blk W' G 39 #[.int .i64 al,.int .i64 st,v]:=(hg.block G h.blk.lt (fun e=>by have:=(h.own.lt G e.symm).1;have:=h.hG;omega)).trans h.blk
 have hgG:=(hown.lt g rfl).1
 have hG:=h.hG
 have hf:Frm (fun k=>k=G) w0 W':=h.fr.grownG hg (fun k hk=>(h.own.lt k hk).1)
 refine⟨hB.cell 2,hB.frozen 2,⟨by simpa using hB.set_ 2 _,?_,hf.cell rfl _,hG⟩⟩
 have:=ze hown (Frm.setCell W' G 2 (.slice (some ⟨g,0,none⟩) (es.length+1) cap)) (fun b hv hS=>by
  have:g=b:=by simpa [Value.ownBlock] using hv
  omega)
 rw [zbJ]
 simpa [zp] using this
set_option maxHeartbeats 2000000
theorem yH07a4 {P:Prop}(h:P:=by
 intro vA w4 hownA hgA hatA
 rw [Nat.zero_add,List.nil_append] at hownA
 obtain⟨BA,dA,rfl⟩:=zh hownA
 have hxA:Ext w2 w4:=hx0.grown hgA (fun k hk=>(hm.lt k hk).1)
 have hb:Blk w4 G 27 #[.int .i64 0,.slice none 0 0,.slice none 0 0]:=(hgA.block G hb.lt (fun e=>zo hm hb (by decide) e.symm rfl)).trans hb
 replace hx0:=hxA
 refine hK.out _ _ hx0 ?_
 refine pT ?_
 refine uQ ?_
 have cG:=hb.cell
 have fG:=hb.frozen
 (refine za rfl rfl rfl rfl (fun K hK=>?_))
 go_simp
 refine hK.out _ _ ?_
 refine zd ?_
 have hfin:Gra w2 (((w4.setCell ⟨G,0,none⟩ (.int .i64 a.al)).setCell ⟨G,1,none⟩ (.slice none 0 0)).setCell ⟨G,2,none⟩ (.slice BA n' dA)) G a.al (.slice none 0 0) [] (.slice BA n' dA) a.acc:=⟨zah hb rfl _ _ _,⟨[],World.ownsRow_nil _ _ _ _,zH.nil _ _⟩,by
  rw [← hL'.out]
  exact ze hownA (zaa w4 G _ _ _) (fun b hv hS=>zo hownA hb (by decide) hv hS),hx0.frm (zaa w4 G _ _ _) (fun k hk e=>by omega),hG⟩
 go_wp2_with fail
 go_meet
 exact⟨G,_,rfl,hfin⟩
 ):P:=h
set_option maxRecDepth 100000 in
theorem zcS {lo hi:Nat} {A:Option Addr} {n c:Nat} {A':Option Addr} {n' c':Nat} {a:Aut} {w:World}(h:zF w lo hi A n A' n' a)(hs:a.size≤1048576) :
  Calls Tryz.prog 90 #[.agg #[.int .i64 a.al,.slice A n c,.slice A' n' c']] w (RetAut w a):=by
 have h1:n≤1048576:=by have:=h.n1;unfold Aut.size at hs;omega
 have h2:n'≤1048576:=by have:=h.n2;unfold Aut.size at hs;omega
 have hrow:∀ (k:Nat) (l:List Int),a.next[k]?=some l→l.length≤1048576:=fun k l hl=>by
  have h1:=zhc hl
  have h2:=tot_take_le a.next (k+1)
  unfold Aut.size at hs
  omega
 have Hrow:=hide hrow
 have hL:=hide h.n1
 have hL':=hide h.n2
 have HS:=hide (fun W (hW:Ext w W)=>h.1.ext hW)
 have HA:=hide (fun W (hW:Ext w W)=>h.2.2.ext hW)
 have hlen:=h.1.len
 clear hrow h hs
 go_enter Tryz.func90,Tryz.ntmps90
 obtain⟨b1,bz⟩:=zR (Ext.refl ((w.alloc (.cells #[.int .i64 a.al,.slice A n c,.slice A' n' c'] 27)).alloc (.cells #[.int .i64 0,.slice none 0 0,.slice none 0 0] 27)))
 have hw2:Ext w ((w.alloc (.cells #[.int .i64 a.al,.slice A n c,.slice A' n' c'] 27)).alloc (.cells #[.int .i64 0,.slice none 0 0,.slice none 0 0] 27)):=((Ext.refl w).alloc _).alloc _
 have hsz2:w.heap.size+2=((w.alloc (.cells #[.int .i64 a.al,.slice A n c,.slice A' n' c'] 27)).alloc (.cells #[.int .i64 0,.slice none 0 0,.slice none 0 0] 27)).heap.size:=by simp
 go_upto_region 1 with fail
 generalize (w.alloc (.cells #[.int .i64 a.al,.slice A n c,.slice A' n' c'] 27)).alloc (.cells #[.int .i64 0,.slice none 0 0,.slice none 0 0] 27)=w2 at *
 go_cut [3] (fun v wx=>∃ (G:Nat) (vA:Value),v=.pointer (some ⟨G,0,none⟩)∧Gra w2 wx G a.al (.slice none 0 0) [] vA a.acc)
 case first =>
  have c1:=fun W (hW:Ext w2 W)=>(b1.ext hW).cell
  have hww:=Ext.refl w2
  refine uR (fun X=>Ext w2 X) [8] (OrdU.app [0,1,3,4] (OrdU.two 2 (OrdU.two 5 (OrdU.of [6,7,8]) 7 (OrdU.of [5,6,8])) 7 (OrdU.of [2,5,6,8]))) ?_
  refine uQ ?_
  have hx0:Ext w2 w2.drew:=hww.drew
  generalize w2.drew=wd at *
  refine zl rfl rfl rfl rfl (fun K hK=>?_) (fun K hK=>?_)
  ·go_simp
   have hm:=World.ownsRow_made (base:=w2.heap.size) (e:=4) (size:=1) wd #[] 0 hx0.size (Nat.zero_le _) rfl
   have hx1:=(Ext.refl wd).alloc (.cells #[] 4)
   replace hx0:=hx0.trans hx1
   refine hK.out _ _ hx0 ?_
   generalize wd.alloc (.cells #[] 4)=wm at *
   generalize wd.heap.size=M at *
   refine pT ?_
   refine uQ ?_
   clear hK
   refine zl rfl rfl rfl rfl (fun K hK=>?_) (fun K hK=>?_)
   ·skip
    refine zt wm _ _ 25 rfl w2.heap.size 4 _ 1 1 Tryz.underlying25 zba rfl (by decide) (.slice (some ⟨M,0,none⟩) 0 0) 0 [] rfl hm _ _ A' n' c' (zaz a.acc) rfl (HA.out _ (hw2.trans hx0)) (zft _) (by unfold maxLen;omega) (by omega) hx0.size ?_
    intro vA w4 hownA hgA hatA
    rw [Nat.zero_add,List.nil_append] at hownA
    obtain⟨BA,dA,rfl⟩:=zh hownA
    have hxA:Ext w2 w4:=hx0.grown hgA (fun k hk=>(hm.lt k hk).1)
    replace hx0:=hxA
    refine hK.out _ _ hx0 ?_
    refine pT ?_
    refine uQ ?_
    (refine zb rfl rfl rfl (fun K hK=>?_);go_simp)
    have hx1:=(Ext.refl w4).alloc (.cells #[.int .i64 0,.slice none 0 0,.slice none 0 0] 27)
    have hb:=Blk.new w4 27 #[.int .i64 0,.slice none 0 0,.slice none 0 0]
    have hG:=hx0.size
    replace hownA:=zf hownA hx1
    replace hx0:=hx0.trans hx1
    refine hK.out _ _ hx0 ?_
    generalize w4.alloc (.cells #[.int .i64 0,.slice none 0 0,.slice none 0 0] 27)=wg at *
    generalize w4.heap.size=G at *
    refine pT ?_
    refine uQ ?_
    have cG:=hb.cell
    have fG:=hb.frozen
    (refine za rfl rfl rfl rfl (fun K hK=>?_))
    go_simp
    refine hK.out _ _ ?_
    refine zd ?_
    have hfin:Gra w2 (((wg.setCell ⟨G,0,none⟩ (.int .i64 a.al)).setCell ⟨G,1,none⟩ (.slice none 0 0)).setCell ⟨G,2,none⟩ (.slice BA n' dA)) G a.al (.slice none 0 0) [] (.slice BA n' dA) a.acc:=⟨zah hb rfl _ _ _,⟨[],World.ownsRow_nil _ _ _ _,zH.nil _ _⟩,by
     rw [← hL'.out]
     exact ze hownA (zaa wg G _ _ _) (fun b hv hS=>zo hownA hb (by decide) hv hS),hx0.frm (zaa wg G _ _ _) (fun k hk e=>by omega),hG⟩
    go_wp2_with fail
    go_meet
    exact⟨G,_,rfl,hfin⟩
   ·go_simp
    have hx1:=(Ext.refl wm).alloc (.cells #[.int .i64 0,.slice none 0 0,.slice none 0 0] 27)
    have hb:=Blk.new wm 27 #[.int .i64 0,.slice none 0 0,.slice none 0 0]
    have hG:=hx0.size
    replace hm:=zf hm hx1
    replace hx0:=hx0.trans hx1
    refine hK.out _ _ hx0 ?_
    generalize wm.alloc (.cells #[.int .i64 0,.slice none 0 0,.slice none 0 0] 27)=wg at *
    generalize wm.heap.size=G at *
    refine pT ?_
    refine uQ ?_
    refine zb rfl rfl rfl (fun K hK=>?_)
    refine zt wg _ _ 25 rfl w2.heap.size 4 _ 1 1 Tryz.underlying25 zba rfl (by decide) (.slice (some ⟨M,0,none⟩) 0 0) 0 [] rfl hm _ _ A' n' c' (zaz a.acc) rfl (HA.out _ (hw2.trans hx0)) (zft _) (by unfold maxLen;omega) (by omega) hx0.size ?_
    exact yH07a4
  ·go_simp
   have hx1:=(Ext.refl wd).alloc (.cells #[.int .i64 0,.slice none 0 0,.slice none 0 0] 27)
   have hb:=Blk.new wd 27 #[.int .i64 0,.slice none 0 0,.slice none 0 0]
   have hG:=hx0.size
   replace hx0:=hx0.trans hx1
   refine hK.out _ _ hx0 ?_
   generalize wd.alloc (.cells #[.int .i64 0,.slice none 0 0,.slice none 0 0] 27)=wg at *
   generalize wd.heap.size=G at *
   refine pT ?_
   refine uQ ?_
   (refine zb rfl rfl rfl (fun K hK=>?_);go_simp)
   have hm:=World.ownsRow_made (base:=w2.heap.size) (e:=4) (size:=1) wg #[] 0 hx0.size (Nat.zero_le _) rfl
   have hx1:=(Ext.refl wg).alloc (.cells #[] 4)
   replace hb:=hb.ext hx1
   replace hx0:=hx0.trans hx1
   refine hK.out _ _ hx0 ?_
   generalize wg.alloc (.cells #[] 4)=wm at *
   generalize wg.heap.size=M at *
   refine pT ?_
   refine uQ ?_
   refine zb rfl rfl rfl (fun K hK=>?_)
   refine zt wm _ _ 25 rfl w2.heap.size 4 _ 1 1 Tryz.underlying25 zba rfl (by decide) (.slice (some ⟨M,0,none⟩) 0 0) 0 [] rfl hm _ _ A' n' c' (zaz a.acc) rfl (HA.out _ (hw2.trans hx0)) (zft _) (by unfold maxLen;omega) (by omega) hx0.size ?_
   exact yH07a4
 case rest =>
  obtain⟨G,vA,rfl,hgr⟩:=hcut
  have k1:=(b1.ext hgr.ext).cell
  go_wp2_with fail
  go_loopw [4] (fun i wr=>∃ (k:Nat) (v:Value),k≤n∧i=.int .i64 k∧Gra w2 wr G a.al v (a.next.take k) vA a.acc) (fun i _=>n - (intOf i).toNat)
  case atStart=>exact⟨0,_,Nat.zero_le _,rfl,by simpa using hgr⟩
  case round =>
   clear hgr k1
   obtain⟨k,v,hk,rfl,hgr⟩:=hrel
   by_cases hlt:k<n
   ·obtain⟨ad,Ak,ck,l,rfl,_,_,hl,hc0,hrk⟩:=(HS.out wr (hw2.trans hgr.ext)).row hlt
    have hll:=Hrow.out k l hl.out
    have Htk:=hide (show a.next.take (k+1)=a.next.take k++[l] by rw [List.take_add_one,hl.out];rfl)
    have htl:=hide (show (a.next.take k).length=k by rw [List.length_take];have:=hL.out;omega)
    obtain⟨rows,hv,hrows⟩:=hgr.own
    have k1:=(b1.ext hgr.ext).cell
    go_upto_region 5 with fail
    clear k1
    have cG:∀ W,Ext wr W→∀ q,W.cell? ⟨G,q,none⟩=#[Value.int .i64 a.al,v,vA][q]?:=fun W hW=>(hgr.blk.ext hW).cell
    have hww:=Ext.refl wr
    have Hrk:=hide (fun W (hW:Ext wr W)=>hrk.ext hW)
    have C1:∀ W,Ext wr W→∀ q,W.cell? ⟨w.heap.size,q,none⟩=#[Value.int .i64 a.al,.slice (some ad) n c,.slice A' n' c'][q]?:=fun W hW=>((b1.ext hgr.ext).ext hW).cell
    have Cr:∀ W,Ext wr W→W.cell? (ad.add k)=some (.slice Ak l.length ck):=fun W hW=>hW.cell_some hc0
    have hkn:(k:Int)<(n:Int):=by omega
    clear hc0 hrk
    refine uR (fun X=>Ext wr X) [10,12] (OrdU.of [0,1,3,4,5,6,7,2,8,9,10,11,12]) ?_
    refine uQ ?_
    have hx0:Ext wr wr.drew:=hww.drew
    generalize wr.drew=wd at *
    (refine zb rfl rfl rfl (fun K hK=>?_);go_simp)
    have hm:=World.ownsRow_made (base:=wr.heap.size) (e:=3) (size:=1) wd #[] 0 hx0.size (Nat.zero_le _) rfl
    have hx1:=(Ext.refl wd).alloc (.cells #[] 3)
    replace hx0:=hx0.trans hx1
    refine hK.out _ _ hx0 ?_
    generalize wd.alloc (.cells #[] 3)=wm at *
    generalize wd.heap.size=M at *
    refine pT ?_
    refine uQ ?_
    refine zb rfl rfl rfl (fun K hK=>?_)
    refine zt wm _ _ 71 rfl wr.heap.size 3 _ 1 8 Tryz.underlying71 zY rfl (by decide) (.slice (some ⟨M,0,none⟩) 0 0) 0 [] rfl hm _ _ Ak l.length ck (ints l) rfl (Hrk.out _ hx0) (zgG _) (by unfold maxLen;omega) (by omega) hx0.size ?_
    intro vR w3 hrow hgR hatR
    rw [Nat.zero_add,List.nil_append] at hrow
    obtain⟨BR,dR,rfl⟩:=zh hrow
    have hww3:Ext wr w3:=hx0.grown hgR (fun k hk=>(hm.lt k hk).1)
    refine hK.out _ _ hww3 ?_
    refine pT ?_
    refine uQ ?_
    (refine zb rfl rfl rfl (fun K hK=>?_);go_simp)
    refine hK.out _ _ (hww3.alloc _) ?_
    refine pT ?_
    (refine za rfl rfl rfl rfl (fun K hK=>?_))
    refine zaG w2 w3 _ _ _ rfl 71 _ 1 24 Tryz.underlying24 zbV rfl (by decide) v (a.next.take k).length rows _ _ rfl rfl (hgr.ext.trans hww3).size (zf hv hww3) rfl (zaP _ _ _) (by unfold maxLen;have:=htl.out;omega) (by have:=htl.out;omega) ?_
    intro g5 cap5 w5 hown5 hg5 hat5 hlt5
    refine hK.out _ _ ?_
    refine pT ?_
    refine uQ ?_
    obtain⟨p1,p2,p3⟩:=hgr.push hrows hv hww3 hrow (W':=w5) hown5 hg5 hat5
    have p1':=p1.out
    (refine za rfl rfl rfl rfl (fun K hK=>?_))
    go_simp
    refine hK.out _ _ ?_
    refine zd ?_
    go_wp2_with fail
    go_roundw
    case rel=>exact⟨k+1,_,by omega,by go_num,by rw [Htk.out];first|exact p3|simpa using p3⟩
    case measure=>simp [intOf];omega
   ·obtain rfl:n=k:=by omega
    obtain⟨A5,c5,rfl⟩:∃ A5 c5,v=.slice A5 n c5:=by
     obtain⟨rows,hv,_⟩:=hgr.own
     rw [List.take_of_length_le (by have:=hL.out;omega),← hL.out] at hv
     exact zh hv
    obtain⟨B5,d5,rfl⟩:=zh hgr.acc
    have k1:=(b1.ext hgr.ext).cell
    have cG:=hgr.blk.cell
    have hbz:=bz.ext hgr.ext
    have cZ:=hbz.cell
    have fZ:=hbz.frozen
    have hfl:=zaa wr (w.heap.size+1) (.int .i64 a.al) (.slice A5 n c5) (.slice B5 a.acc.length d5)
    have hbf:=zah hbz rfl (.int .i64 a.al) (.slice A5 n c5) (.slice B5 a.acc.length d5)
    have hxf:=(hw2.trans hgr.ext).frm hfl (fun k hk e=>by omega)
    have hfin:=hide (show RetAut w a (.returned (.agg #[.int .i64 a.al,.slice A5 n c5,.slice B5 a.acc.length d5])) (((wr.setCell ⟨w.heap.size+1,0,none⟩ (.int .i64 a.al)).setCell ⟨w.heap.size+1,1,none⟩ (.slice A5 n c5)).setCell ⟨w.heap.size+1,2,none⟩ (.slice B5 a.acc.length d5)) from by
     refine⟨A5,n,c5,B5,a.acc.length,d5,rfl,⟨?_,hL.out,?_,rfl⟩,hxf⟩
     ·have ho:=hgr.own
      rw [List.take_of_length_le (by have:=hL.out;omega)] at ho
      exact (ho.keep hfl (fun b h1 e=>by omega)).less (by omega)
     ·exact zn (zay hgr.acc hfl (fun b h1 e=>by omega)) (by omega))
    go_wp2_with fail
    generalize ((wr.setCell ⟨w.heap.size+1,0,none⟩ (.int .i64 a.al)).setCell ⟨w.heap.size+1,1,none⟩ (.slice A5 n c5)).setCell ⟨w.heap.size+1,2,none⟩ (.slice B5 a.acc.length d5)=wf at *
    have cf:=hbf.cell
    exact bodyPost_ret (v:=.agg #[.int .i64 a.al,.slice A5 n c5,.slice B5 a.acc.length d5]) (by simp [results,Tryz.results90,go_sem,cf]) rfl hfin.out
end Go.Proofs.YtndhahednhnnbaaGreatDoor
