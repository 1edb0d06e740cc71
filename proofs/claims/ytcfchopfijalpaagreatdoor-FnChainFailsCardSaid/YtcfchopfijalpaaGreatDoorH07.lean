/- ChainFault o -/
import Derived.Test.YtcfchopfijalpaaGreatDoorH06
import Derived.Lib.SliceRun
set_option maxHeartbeats 4000000
set_option maxRecDepth 100000
namespace Go.Proofs.YtcfchopfijalpaaGreatDoor
open Go Go.RowKit
open Bool renaming and_eq_true->dH,eq_false_iff->fH,eq_iff_iff->gX,or_eq_true->gV,true_and->jD
open Ext renaming refl->dB,x1_->gL
open Frm renaming setCell->dF
open List renaming all_eq_true->eW,eq_nil_of_length_eq_zero->eD,foldl_cons->iQ,getD_eq_getElem?_getD->dI,getElem?_append_left->eC,getElem?_eq_getElem->dE,getElem?_map->eF,getElem?_of_mem->eP,getElem?_set_ne->gF,getElem?_set_self->fI,length_append->eE,length_set->fX,length_singleton->eO,length_take->e8,map_cons->gJ,mem_cons_of_mem->eS,mem_cons_self->iG,mem_of_getElem?->dC,mem_of_mem_take->gG,mem_or_eq_of_mem_set->fV,mem_replicate->iX,nil_append->eY,replicate->eH,take_add_one->eA,take_of_length_le->dU
open Nat renaming add_assoc->fF,div_eq_of_lt->jJ,eq_of_testBit_eq->gH,eq_zero_or_pos->iI,le_of_lt_succ->fJ,le_refl->dD,le_trans->eB,lt_of_lt_of_le->eM,lt_or_eq_of_le->eU,mod_eq_of_lt->iN,mod_mul_right_div_self->jV,mul_comm->fY,or_lt_two_pow->eV,pow_le_pow_right->eQ,testBit_and->gW,testBit_or->iY,zero_add->eJ,zero_le->dG
open Option renaming getD_some->fW,toList_some->eR
variable {A a b base c cap hi i j k l lo n q x:Nat} {M T U V ls v:List Nat} {cs:Array Value} {es:List Edg} {p:Aut} {s:ByteArray} {ss:List Sys} {t:TypeId} {w:World}
theorem zdL {x y z:Sys} (h:three [x,y,z] p=true):∃ c:Nat,zaw [x,y,z] p=(c:Int)∧c<=63:=by
 have f:=h;simp only [three,dH] at f;obtain⟨_,g⟩:=zaf f.2.1;have r:=zD (g x sM);have s:=zD (g y sM);have t:=zD (g z sM);have q:=(zl f.2.2).1;unfold zaw;rw [h,if_pos rfl];obtain⟨a,i⟩:∃ a:Nat,x.al=a:=⟨x.al.toNat,oM⟩;obtain⟨b,hb⟩:∃ a:Nat,y.al=a:=⟨y.al.toNat,oM⟩;obtain⟨c,j⟩:∃ a:Nat,z.al=a:=⟨z.al.toNat,oM⟩;obtain⟨d,k⟩:∃ a:Nat,p.al=a:=⟨p.al.toNat,oM⟩;dsimp only;rw [i,hb,j,k];have l:=eV (n:=6) (x:=a) (y:=d) oM oM;have o:=eV (n:=6) (x:=b) (y:=c) oM oM;rw [zbi tM tM,zbi tM tM,zck tM tM];refine⟨_,rfl,?_⟩;have:=Nat.and_le_left (n:=a|||d) (m:=b|||c);omega
noncomputable def zdc (ss:List Sys) (p f g:Aut):Int:=
 if (three ss p&&(zj f&&zj g))=false then 1
 else if (decide (f.al=zaw ss p)&&decide (g.al=zcd ss p))=false then 2
 else match ss with
  |[x,y,z]=>if (zbI x f p&&zbI y g f)=false then 3 else if zbq [z] g=false then 4 else 0
  |_=>0
section
variable {lo hi c:Nat} {A:Option Addr} {ss:List Sys} {lo1 hi1 m1 d1 m1' d1':Nat} {B B':Option Addr} {p:Aut} {lo2 hi2 m2 d2 m2' d2':Nat} {C C':Option Addr} {f:Aut} {lo3 hi3 m3 d3 m3' d3':Nat} {D D':Option Addr} {g:Aut} {w:World}
theorem yH07a1 {P:Prop}(h:P:=by
 go_enter Tryz.func48,Tryz.ntmps48
 go_upto_region 1 with fail
 generalize (w.alloc _).alloc _=w1 at *;have c1:=b1.cell;go_wp2_with (first
  |(go_at_call 78;refine (HCL.out _ hw1).mono ?_;rw [hc1.out,hq2.out];rintro e w2 ⟨rfl,hx2⟩;have hw2:=hw1.trans hx2;have c22:=(b2.ext hx2).cell)
  |(go_at_call 95;with_reducible refine (HF.out _ hw2).mono ?_;rw [V1.out];rintro e w3 ⟨rfl,hx3⟩;have hw3:=hw2.trans hx3;have c32:=(b2.ext (hx2.trans hx3)).cell)
  |(go_at_call 95;with_reducible refine (HG.out _ hw3).mono ?_;rw [V2.out];rintro e w4 ⟨rfl,hx4⟩;have hw4:=hw3.trans hx4;have c42:=(b2.ext (hx2.trans (hx3.trans hx4))).cell))
 go_ret;exact⟨zL (by rw [hr.out]),hw4⟩
 ):P:=h
theorem yH07a2 {P:Prop}(h:P:=by
 have hh:=(HX2.out W (hw4.trans hW)).1;refine⟨(hh 0).resolve_right oM,(hh 1).resolve_right oM,(hh 2).resolve_right oM,(hh 3).resolve_right oM,(hh 4).resolve_right oM,(hh 5).resolve_right oM,(hh 6).resolve_right oM,(hh 7).resolve_right oM,(hh 8).resolve_right oM⟩
 ):P:=h
theorem impl_ChainFault (h:zdG w lo hi A n ss)(hp:zF w lo1 hi1 B m1 B' m1' p)(hf:zF w lo2 hi2 C m2 C' m2' f)(hg:zF w lo3 hi3 D m3 D' m3' g)(hT:Tab w) :
  Calls Tryz.prog 48 #[.slice A n c,.agg #[p.al,.slice B m1 d1,.slice B' m1' d1'],.agg #[f.al,.slice C m2 d2,.slice C' m2' d2',g.al,.slice D m3 d3,.slice D' m3' d3']] w fun e w'=>e=.returned (.int .i64 (zdc ss p f g))∧Ext w w':=by
 have HS:=za (fun W (hW:Ext w W)=>h.ext hW);have aj:=za (fun W (hW:Ext w W)=>hp.ext hW);have T:=za (fun W (hW:Ext w W)=>hf.ext hW);have U:=za (fun W (hW:Ext w W)=>hg.ext hW);have HT:=za (fun W (hW:Ext w W)=>hT.ext hW);have HCL:=za (fun W (hW:Ext w W)=>zcv (c:=c) (d:=d1) (d':=d1') (h.ext hW) (hp.ext hW));have HF:=za (fun W (hW:Ext w W)=>zA _ _ _ _ d2 _ _ d2' _ _ (hf.ext hW));have HG:=za (fun W (hW:Ext w W)=>zA _ _ _ _ d3 _ _ d3' _ _ (hg.ext hW));have hn:=za h.1;clear h hp hf hg hT;have hw1:Ext w ((w.alloc (.cells #[p.al,.slice B m1 d1,.slice B' m1' d1'] 31)).alloc (.cells #[f.al,.slice C m2 d2,.slice C' m2' d2',g.al,.slice D m3 d3,.slice D' m3' d3'] 51)):=((dB w).alloc _).alloc _;obtain⟨b1,b2⟩:=zJ (dB ((w.alloc (.cells #[p.al,.slice B m1 d1,.slice B' m1' d1'] 31)).alloc (.cells #[f.al,.slice C m2 d2,.slice C' m2' d2',g.al,.slice D m3 d3,.slice D' m3' d3'] 51)));cases hT:three ss p
 ·have hr:=za (show zdc ss p f g=1 by unfold zdc;rw [hT];rfl);have hc1:=za (show zaw ss p = -1 by unfold zaw;rw [hT];rfl);clear hT
  go_enter Tryz.func48,Tryz.ntmps48
  go_upto_region 1 with fail
  generalize (w.alloc _).alloc _=w1 at *;have c1:=b1.cell;go_wp2_with (go_at_call 78;refine (HCL.out _ hw1).mono ?_;rw [hc1.out];rintro e w2 ⟨rfl,hx2⟩)
  go_ret;exact⟨zL (by rw [hr.out]),hw1.trans hx2⟩
 ·obtain⟨x,y,z,rfl⟩:=zbB hT;obtain⟨q1,ab,av⟩:=zdL hT;obtain rfl:n=3:=hn.out;have hc1:=za ab;obtain⟨q2,hq2⟩:∃ q2:Int,Hid (zcd [x,y,z] p=q2):=⟨_,rfl⟩;have v:=za hT;clear hT ab hn;have au:¬ (q1:Int)<0:=oM;obtain⟨b,o,rfl,HX⟩:∃ b o,A=some ⟨b,o,none⟩∧Hid (∃ (H I t:Option Addr) (l M E J L u:Nat),∀ W,Ext w W->(∀ j,W.cell? ⟨b,o+j,none⟩=#[Value.int .i64 x.al,.int .i64 x.st,.slice H l J,.int .i64 y.al,.int .i64 y.st,.slice I M L,.int .i64 z.al,.int .i64 z.st,.slice t E u][j]?∨9<=j)∧zQ W lo hi H l x∧zQ W lo hi I M y∧zQ W lo hi t E z):=by
   obtain⟨b,o,s,H,l,J,rfl,_,_,hs,e0,e1,e2,hx⟩:=(HS.out w (dB _)).sys (k:=0) oM;obtain rfl:x=s:=by have:=hs.out;simpa using this
   obtain⟨I,M,L,f0,f1,f2,q⟩:=(HS.out w (dB _)).aw (k:=1) (s:=y) rfl;obtain⟨t,E,u,g0,g1,g2,hz⟩:=(HS.out w (dB _)).aw (k:=2) (s:=z) rfl;refine⟨b,o,rfl,⟨H,I,t,l,M,E,J,L,u,fun W hW=>⟨fun j=>?_,hx.ext hW,q.ext hW,hz.ext hW⟩⟩⟩
   match j with
   |0=>exact Or.inl (hW.aa (by simpa using e0))
   |1=>exact Or.inl (hW.aa (by simpa using e1))
   |2=>exact Or.inl (hW.aa (by simpa using e2))
   |3=>exact Or.inl (hW.aa (by simpa using f0))
   |4=>exact Or.inl (hW.aa (by simpa [fF] using f1))
   |5=>exact Or.inl (hW.aa (by simpa [fF] using f2))
   |6=>exact Or.inl (hW.aa (by simpa using g0))
   |7=>exact Or.inl (hW.aa (by simpa [fF] using g1))
   |8=>exact Or.inl (hW.aa (by simpa [fF] using g2))
   |j+9=>exact Or.inr oM
  by_cases hV:(zj f&&zj g)=true
  ·simp only [dH] at hV;have V1:=za hV.1;have V2:=za hV.2;clear hV
   by_cases hE1:f.al=(q1:Int)
   ·by_cases hE2:g.al=q2
    ·-- the letters are right
     have hr:=za (show zdc [x,y,z] p f g=if (zbI x f p&&zbI y g f)=false then 3 else if zbq [z] g=false then 4 else 0 by
      unfold zdc;rw [v.out,V1.out,V2.out,hc1.out,hq2.out,decide_eq_true hE1,decide_eq_true hE2];rfl)
     have ax:=za hE1;have ay:=za hE2;have aa:(f.al != (q1:Int))=false:=by simp [hE1]
     have ao:(g.al != q2)=false:=by simp [hE2]
     clear hE1 hE2;obtain⟨H,I,t,l,M,E,J,L,u,Y⟩:=HX.out;have HX2:=za Y;clear HX Y;have O:=za (fun W (hW:Ext w W)=>zeA (c:=J) (d1:=d2) (d1':=d2') (d2:=d1) (d2':=d1') (HX2.out W hW).2.1 (T.out W hW) (aj.out W hW) (HT.out W hW));have V:=za (fun W (hW:Ext w W)=>zeA (c:=L) (d1:=d3) (d1':=d3') (d2:=d2) (d2':=d2') (HX2.out W hW).2.2.1 (U.out W hW) (T.out W hW) (HT.out W hW));have ai:=za (fun W (hW:Ext w W)=>zfP (c:=u) (d2:=d3) (d2':=d3') (HX2.out W hW).2.2.2 (U.out W hW) (HT.out W hW));generalize zbI x f p=u1 at *;generalize zbI y g f=u2 at *;generalize zbq [z] g=u3 at *;cases u1
     rotate_left
     ·cases u2
      rotate_left
      ·cases u3
       all_goals
        go_enter Tryz.func48,Tryz.ntmps48
        go_upto_region 1 with fail
        generalize (w.alloc _).alloc _=w1 at *;have c1:=b1.cell;go_upto_region 6 with (first
         |(go_at_call 78;refine (HCL.out _ hw1).mono ?_;rw [hc1.out,hq2.out];rintro e w2 ⟨rfl,hx2⟩;have hw2:=hw1.trans hx2;have c22:=(b2.ext hx2).cell)
         |(go_at_call 95;with_reducible refine (HF.out _ hw2).mono ?_;rw [V1.out];rintro e w3 ⟨rfl,hx3⟩;have hw3:=hw2.trans hx3;have c32:=(b2.ext (hx2.trans hx3)).cell)
         |(go_at_call 95;with_reducible refine (HG.out _ hw3).mono ?_;rw [V2.out];rintro e w4 ⟨rfl,hx4⟩;have hw4:=hw3.trans hx4;have c42:=(b2.ext (hx2.trans (hx3.trans hx4))).cell))
        have a:=hx2.trans (hx3.trans hx4);have F:=b1.ext a;have G:=b2.ext a;have c6:=F.cells;have c8:=G.cells;have Q:∀ W,Ext w4 W->W.cell? ⟨b,o,none⟩=some (.int .i64 x.al)∧W.cell? ⟨b,o+1,none⟩=some (.int .i64 x.st)∧W.cell? ⟨b,o+2,none⟩=some (.slice H l J)∧W.cell? ⟨b,o+3,none⟩=some (.int .i64 y.al)∧W.cell? ⟨b,o+4,none⟩=some (.int .i64 y.st)∧W.cell? ⟨b,o+5,none⟩=some (.slice I M L)∧W.cell? ⟨b,o+6,none⟩=some (.int .i64 z.al)∧W.cell? ⟨b,o+7,none⟩=some (.int .i64 z.st)∧W.cell? ⟨b,o+8,none⟩=some (.slice t E u):=fun W hW=>by
         exact yH07a2
        have i:=dB w4;clear c1 c22 c32 c42 F G;refine uR (fun X=>Ext w4 X) [16] (zv.of [0,1,2,3,4,5,6,7,8,9,10,11,12,13,14,15,16,17,18,19]) ?_;refine uQ ?_;refine ze fun K hK=>?_;go_simp;refine (O.out _ (hw4.trans i.drew)).mono (mQ fun w5 r=>?_);have q:=i.drew.trans r;refine hK.out _ _ q ?_;refine pT ?_;refine uQ ?_;refine zb fun K hK=>?_;go_simp;refine (V.out _ (hw4.trans q)).mono (mQ fun w6 R=>?_);have S:=q.trans R;refine hK.out _ _ ?_;refine pT ?_;refine uQ ?_;refine zf ?_;go_wp2_with fail
        have m:=S;clear c6 c8 Q i;go_upto_region 8 with fail
        have aI:∀ W,Ext w6 W->W.cell? ⟨b,o+6,none⟩=some (.int .i64 z.al)∧W.cell? ⟨b,o+7,none⟩=some (.int .i64 z.st)∧W.cell? ⟨b,o+8,none⟩=some (.slice t E u):=fun W hW=>by
         have hh:=(HX2.out W (hw4.trans (m.trans hW))).1;exact⟨(hh 6).resolve_right oM,(hh 7).resolve_right oM,(hh 8).resolve_right oM⟩
        have c8:∀ W,Ext w6 W->∀ j,W.cell? ⟨w.heap.size+1,j,none⟩=#[Value.int .i64 f.al,.slice C m2 d2,.slice C' m2' d2',.int .i64 g.al,.slice D m3 d3,.slice D' m3' d3'][j]?:=fun W hW=>(b2.ext (a.trans (m.trans hW))).cell;have i:=dB w6;refine uR (fun X=>Ext w6 X) [5] (zv.of [0,1,2,3,4,5,6,7]) ?_;refine uQ ?_;refine zb fun K hK=>?_;go_simp;refine (ai.out _ (hw4.trans (m.trans i.drew))).mono (mQ fun w7 ap=>?_);have ad:=m.trans (i.drew.trans ap);refine hK.out _ _ ?_;refine pT ?_;refine uQ ?_;refine zf ?_;go_wp2_with fail
        go_ret;exact⟨zL (by rw [hr.out];rfl),hw1.trans (a.trans ad)⟩
      ·go_enter Tryz.func48,Tryz.ntmps48
       go_upto_region 1 with fail
       generalize (w.alloc _).alloc _=w1 at *;have c1:=b1.cell;go_upto_region 6 with (first
        |(go_at_call 78;refine (HCL.out _ hw1).mono ?_;rw [hc1.out,hq2.out];rintro e w2 ⟨rfl,hx2⟩;have hw2:=hw1.trans hx2;have c22:=(b2.ext hx2).cell)
        |(go_at_call 95;with_reducible refine (HF.out _ hw2).mono ?_;rw [V1.out];rintro e w3 ⟨rfl,hx3⟩;have hw3:=hw2.trans hx3;have c32:=(b2.ext (hx2.trans hx3)).cell)
        |(go_at_call 95;with_reducible refine (HG.out _ hw3).mono ?_;rw [V2.out];rintro e w4 ⟨rfl,hx4⟩;have hw4:=hw3.trans hx4;have c42:=(b2.ext (hx2.trans (hx3.trans hx4))).cell))
       have a:=hx2.trans (hx3.trans hx4);have F:=b1.ext a;have G:=b2.ext a;have c6:=F.cells;have c8:=G.cells;have Q:∀ W,Ext w4 W->W.cell? ⟨b,o,none⟩=some (.int .i64 x.al)∧W.cell? ⟨b,o+1,none⟩=some (.int .i64 x.st)∧W.cell? ⟨b,o+2,none⟩=some (.slice H l J)∧W.cell? ⟨b,o+3,none⟩=some (.int .i64 y.al)∧W.cell? ⟨b,o+4,none⟩=some (.int .i64 y.st)∧W.cell? ⟨b,o+5,none⟩=some (.slice I M L)∧W.cell? ⟨b,o+6,none⟩=some (.int .i64 z.al)∧W.cell? ⟨b,o+7,none⟩=some (.int .i64 z.st)∧W.cell? ⟨b,o+8,none⟩=some (.slice t E u):=fun W hW=>by
        exact yH07a2
       have i:=dB w4;clear c1 c22 c32 c42 F G;refine uR (fun X=>Ext w4 X) [16] (zv.of [0,1,2,3,4,5,6,7,8,9,10,11,12,13,14,15,16,17,18,19]) ?_;refine uQ ?_;refine ze fun K hK=>?_;go_simp;refine (O.out _ (hw4.trans i.drew)).mono (mQ fun w5 r=>?_);have q:=i.drew.trans r;refine hK.out _ _ q ?_;refine pT ?_;refine uQ ?_;refine zb fun K hK=>?_;go_simp;refine (V.out _ (hw4.trans q)).mono (mQ fun w6 R=>?_);have S:=q.trans R;refine hK.out _ _ ?_;refine pT ?_;refine uQ ?_;refine zf ?_;go_wp2_with fail
       go_ret;exact⟨zL (by rw [hr.out];rfl),hw1.trans (a.trans S)⟩
     ·go_enter Tryz.func48,Tryz.ntmps48
      go_upto_region 1 with fail
      generalize (w.alloc _).alloc _=w1 at *;have c1:=b1.cell;go_upto_region 6 with (first
       |(go_at_call 78;refine (HCL.out _ hw1).mono ?_;rw [hc1.out,hq2.out];rintro e w2 ⟨rfl,hx2⟩;have hw2:=hw1.trans hx2;have c22:=(b2.ext hx2).cell)
       |(go_at_call 95;with_reducible refine (HF.out _ hw2).mono ?_;rw [V1.out];rintro e w3 ⟨rfl,hx3⟩;have hw3:=hw2.trans hx3;have c32:=(b2.ext (hx2.trans hx3)).cell)
       |(go_at_call 95;with_reducible refine (HG.out _ hw3).mono ?_;rw [V2.out];rintro e w4 ⟨rfl,hx4⟩;have hw4:=hw3.trans hx4;have c42:=(b2.ext (hx2.trans (hx3.trans hx4))).cell))
      have a:=hx2.trans (hx3.trans hx4);have F:=b1.ext a;have G:=b2.ext a;have c6:=F.cells;have c8:=G.cells;have Q:∀ W,Ext w4 W->W.cell? ⟨b,o,none⟩=some (.int .i64 x.al)∧W.cell? ⟨b,o+1,none⟩=some (.int .i64 x.st)∧W.cell? ⟨b,o+2,none⟩=some (.slice H l J)∧W.cell? ⟨b,o+3,none⟩=some (.int .i64 y.al)∧W.cell? ⟨b,o+4,none⟩=some (.int .i64 y.st)∧W.cell? ⟨b,o+5,none⟩=some (.slice I M L)∧W.cell? ⟨b,o+6,none⟩=some (.int .i64 z.al)∧W.cell? ⟨b,o+7,none⟩=some (.int .i64 z.st)∧W.cell? ⟨b,o+8,none⟩=some (.slice t E u):=fun W hW=>by
       exact yH07a2
      have i:=dB w4;clear c1 c22 c32 c42 F G;refine uR (fun X=>Ext w4 X) [16] (zv.of [0,1,2,3,4,5,6,7,8,9,10,11,12,13,14,15,16,17,18,19]) ?_;refine uQ ?_;refine ze fun K hK=>?_;go_simp;refine (O.out _ (hw4.trans i.drew)).mono (mQ fun w5 r=>?_);have q:=i.drew.trans r;refine hK.out _ _ q ?_;refine pT ?_;refine uQ ?_;refine zf ?_;go_wp2_with fail
      go_ret;exact⟨zL (by rw [hr.out];rfl),hw1.trans (a.trans q)⟩
    ·have hr:=za (show zdc [x,y,z] p f g=2 by
      unfold zdc;rw [v.out,V1.out,V2.out,hc1.out,hq2.out,decide_eq_false hE2]
      simp)
     have aa:(f.al != (q1:Int))=false:=by simp [hE1]
     have ao:(g.al != q2)=true:=by simp [hE2]
     clear hE1 hE2;exact yH07a1
   ·have hr:=za (show zdc [x,y,z] p f g=2 by
     unfold zdc;rw [v.out,V1.out,V2.out,hc1.out,hq2.out,decide_eq_false hE1]
     simp)
    have aa:(f.al != (q1:Int))=true:=by simp [hE1]
    clear hE1;exact yH07a1
  ·have Z:=za (show (zj f&&zj g)=false by simpa using hV);have hr:=za (show zdc [x,y,z] p f g=1 by unfold zdc;rw [v.out,Z.out];rfl);clear hV;cases h2:zj f<;>cases h3:zj g
   all_goals first
    |(exfalso;have:=Z.out;rw [h2,h3] at this;cases this;done)
    |(have V1:=za h2
      have V2:=za h3;clear h2 h3
      go_enter Tryz.func48,Tryz.ntmps48
      go_upto_region 1 with fail
      generalize (w.alloc _).alloc _=w1 at *;have c1:=b1.cell;go_wp2_with (first
       |(go_at_call 78;refine (HCL.out _ hw1).mono ?_;rw [hc1.out,hq2.out];rintro e w2 ⟨rfl,hx2⟩;have hw2:=hw1.trans hx2;have c22:=(b2.ext hx2).cell)
       |(go_at_call 95;with_reducible refine (HF.out _ hw2).mono ?_;rw [V1.out];rintro e w3 ⟨rfl,hx3⟩;have hw3:=hw2.trans hx3;have c32:=(b2.ext (hx2.trans hx3)).cell)
       |(go_at_call 95;with_reducible refine (HG.out _ hw3).mono ?_;rw [V2.out];rintro e w4 ⟨rfl,hx4⟩;have hw4:=hw3.trans hx4;have c42:=(b2.ext (hx2.trans (hx3.trans hx4))).cell))
      go_ret;exact⟨zL (by rw [hr.out]),by first|exact hw4|exact hw3⟩)
end
def iface (s:Sys) (p:Aut) (t:Sys):Int:=if (zk s&&(zj p&&zk t))=true then (((s.al.toNat|||p.al.toNat)&&&t.al.toNat:Nat):Int) else -1
section
variable {lo hi n c:Nat} {A:Option Addr} {s:Sys} {lo1 hi1 m1 d1 m1' d1':Nat} {B B':Option Addr} {p:Aut} {lo2 hi2 k c2:Nat} {C:Option Addr} {t:Sys} {w:World}
theorem zer (h:zQ w lo hi A n s)(hp:zF w lo1 hi1 B m1 B' m1' p)(ht:zQ w lo2 hi2 C k t) :
  Calls Tryz.prog 114 #[.agg #[s.al,s.st,.slice A n c],.agg #[p.al,.slice B m1 d1,.slice B' m1' d1'],.agg #[t.al,t.st,.slice C k c2]] w fun e w'=>e=.returned (.int .i64 (iface s p t))∧Ext w w':=by
 have m:=za (fun W (hW:Ext w W)=>zan (c:=c) (h.ext hW));have l:=za (fun W (hW:Ext w W)=>zR _ _ _ _ d1 _ _ d1' _ _ (hp.ext hW));have o:=za (fun W (hW:Ext w W)=>zan (c:=c2) (ht.ext hW));clear h hp ht;cases h1:zk s<;>cases h2:zj p<;>cases h3:zk t
 case true.true.true =>
  have g:=za h1;have i:=za h2;have j:=za h3;have u:=zD h1;have v:=(zl h2).1;have z:=zD h3;obtain⟨a,q⟩:∃ a:Nat,Hid (s.al=a):=⟨s.al.toNat,by unfold Hid;omega⟩;obtain⟨b,hb⟩:∃ a:Nat,Hid (p.al=a):=⟨p.al.toNat,by unfold Hid;omega⟩;obtain⟨d,r⟩:∃ a:Nat,Hid (t.al=a):=⟨t.al.toNat,by unfold Hid;omega⟩;have hr:=za (show iface s p t=((((a|||b)&&&d:Nat)):Int) by unfold iface;rw [h1,h2,h3,q.out,hb.out,r.out];rfl);rw [q.out] at u;rw [hb.out] at v;rw [r.out] at z;have F:a<=63:=oM;have G:b<=63:=oM;have H:d<=63:=oM;have E:=eV (n:=6) (x:=a) (y:=b) oM oM;have J:=zbi (a:=a) (b:=b) tM tM;have I:=zck (a:=a|||b) (b:=d) tM tM;clear h1 h2 h3 u v z E;rw [q.out] at m ⊢;rw [hb.out] at l ⊢;rw [r.out] at o ⊢
  go_enter Tryz.func114,Tryz.ntmps114
  go_upto_region 1 with fail
  generalize U0:((w.alloc _).alloc _).alloc _=w1 at *;obtain⟨hw1,b1,b2,f⟩:=Ext.x3_ U0;clear U0;have c1:=b1.cell;go_wp2_with (first
   |(go_at_call 199;with_reducible refine (m.out _ hw1).mono ?_;rw [g.out];rintro e w2 ⟨rfl,hx2⟩;have hw2:=hw1.trans hx2;have c2:=(b2.ext hx2).cell)
   |(go_at_call 200;with_reducible refine (l.out _ hw2).mono ?_;rw [i.out];rintro e w3 ⟨rfl,hx3⟩;have hw3:=hw2.trans hx3;have D:=(f.ext (hx2.trans hx3)).cell)
   |(go_at_call 199;with_reducible refine (o.out _ hw3).mono ?_;rw [j.out];rintro e w4 ⟨rfl,hx4⟩;have hw4:=hw3.trans hx4;have L:=(b1.ext (hx2.trans (hx3.trans hx4))).cell;have M:=(b2.ext (hx2.trans (hx3.trans hx4))).cell;have O:=(f.ext (hx2.trans (hx3.trans hx4))).cell))
  go_ret;exact⟨zL (by rw [hr.out]),hw4⟩
 all_goals
  have hr:=za (show iface s p t = -1 by unfold iface;rw [h1,h2,h3];rfl);have g:=za h1;have i:=za h2;have j:=za h3;clear h1 h2 h3
  go_enter Tryz.func114,Tryz.ntmps114
  go_upto_region 1 with fail
  generalize U0:((w.alloc _).alloc _).alloc _=w1 at *;obtain⟨hw1,b1,b2,f⟩:=Ext.x3_ U0;clear U0;have c1:=b1.cell;go_wp2_with (first
   |(go_at_call 199;with_reducible refine (m.out _ hw1).mono ?_;rw [g.out];rintro e w2 ⟨rfl,hx2⟩;have hw2:=hw1.trans hx2;have c2:=(b2.ext hx2).cell)
   |(go_at_call 200;with_reducible refine (l.out _ hw2).mono ?_;rw [i.out];rintro e w3 ⟨rfl,hx3⟩;have hw3:=hw2.trans hx3;have D:=(f.ext (hx2.trans hx3)).cell)
   |(go_at_call 199;with_reducible refine (o.out _ hw3).mono ?_;rw [j.out];rintro e w4 ⟨rfl,hx4⟩;have hw4:=hw3.trans hx4))
  go_ret;exact⟨zL (by rw [hr.out]),by first|exact hw4|exact hw3|exact hw2⟩
theorem zeq (h:zQ w lo hi A n s)(hp:zF w lo1 hi1 B m1 B' m1' p)(ht:zQ w lo2 hi2 C k t) :
  Calls Tryz.prog 188 #[.agg #[s.al,s.st,.slice A n c],.agg #[p.al,.slice B m1 d1,.slice B' m1' d1'],.agg #[t.al,t.st,.slice C k c2]] w fun e w'=>e=.returned (.int .i64 (iface s p t))∧Ext w w':=by
 have m:=za (fun W (hW:Ext w W)=>zaH (c:=c) (h.ext hW));have l:=za (fun W (hW:Ext w W)=>zA _ _ _ _ d1 _ _ d1' _ _ (hp.ext hW));have o:=za (fun W (hW:Ext w W)=>zaH (c:=c2) (ht.ext hW));clear h hp ht;cases h1:zk s<;>cases h2:zj p<;>cases h3:zk t
 case true.true.true =>
  have g:=za h1;have i:=za h2;have j:=za h3;have u:=zD h1;have v:=(zl h2).1;have z:=zD h3;obtain⟨a,q⟩:∃ a:Nat,Hid (s.al=a):=⟨s.al.toNat,by unfold Hid;omega⟩;obtain⟨b,hb⟩:∃ a:Nat,Hid (p.al=a):=⟨p.al.toNat,by unfold Hid;omega⟩;obtain⟨d,r⟩:∃ a:Nat,Hid (t.al=a):=⟨t.al.toNat,by unfold Hid;omega⟩;have hr:=za (show iface s p t=((((a|||b)&&&d:Nat)):Int) by unfold iface;rw [h1,h2,h3,q.out,hb.out,r.out];rfl);rw [q.out] at u;rw [hb.out] at v;rw [r.out] at z;have F:a<=63:=oM;have G:b<=63:=oM;have H:d<=63:=oM;have E:=eV (n:=6) (x:=a) (y:=b) oM oM;have J:=zbi (a:=a) (b:=b) tM tM;have I:=zck (a:=a|||b) (b:=d) tM tM;clear h1 h2 h3 u v z E;rw [q.out] at m ⊢;rw [hb.out] at l ⊢;rw [r.out] at o ⊢
  go_enter Tryz.func188,Tryz.ntmps188
  go_upto_region 1 with fail
  generalize U0:((w.alloc _).alloc _).alloc _=w1 at *;obtain⟨hw1,b1,b2,f⟩:=Ext.x3_ U0;clear U0;have c1:=b1.cell;go_wp2_with (first
   |(go_at_call 108;with_reducible refine (m.out _ hw1).mono ?_;rw [g.out];rintro e w2 ⟨rfl,hx2⟩;have hw2:=hw1.trans hx2;have c2:=(b2.ext hx2).cell)
   |(go_at_call 95;with_reducible refine (l.out _ hw2).mono ?_;rw [i.out];rintro e w3 ⟨rfl,hx3⟩;have hw3:=hw2.trans hx3;have D:=(f.ext (hx2.trans hx3)).cell)
   |(go_at_call 108;with_reducible refine (o.out _ hw3).mono ?_;rw [j.out];rintro e w4 ⟨rfl,hx4⟩;have hw4:=hw3.trans hx4;have L:=(b1.ext (hx2.trans (hx3.trans hx4))).cell;have M:=(b2.ext (hx2.trans (hx3.trans hx4))).cell;have O:=(f.ext (hx2.trans (hx3.trans hx4))).cell))
  go_ret;exact⟨zL (by rw [hr.out]),hw4⟩
 all_goals
  have hr:=za (show iface s p t = -1 by unfold iface;rw [h1,h2,h3];rfl);have g:=za h1;have i:=za h2;have j:=za h3;clear h1 h2 h3
  go_enter Tryz.func188,Tryz.ntmps188
  go_upto_region 1 with fail
  generalize U0:((w.alloc _).alloc _).alloc _=w1 at *;obtain⟨hw1,b1,b2,f⟩:=Ext.x3_ U0;clear U0;have c1:=b1.cell;go_wp2_with (first
   |(go_at_call 108;with_reducible refine (m.out _ hw1).mono ?_;rw [g.out];rintro e w2 ⟨rfl,hx2⟩;have hw2:=hw1.trans hx2;have c2:=(b2.ext hx2).cell)
   |(go_at_call 95;with_reducible refine (l.out _ hw2).mono ?_;rw [i.out];rintro e w3 ⟨rfl,hx3⟩;have hw3:=hw2.trans hx3;have D:=(f.ext (hx2.trans hx3)).cell)
   |(go_at_call 108;with_reducible refine (o.out _ hw3).mono ?_;rw [j.out];rintro e w4 ⟨rfl,hx4⟩;have hw4:=hw3.trans hx4))
  go_ret;exact⟨zL (by rw [hr.out]),by first|exact hw4|exact hw3|exact hw2⟩
end
noncomputable def faultA (s t:Sys) (p a:Aut):Int:=if iface s p t<0∨zj a=false then 1 else if a.al≠iface s p t then 2 else if zbI s a p=false then 3 else if zbq [t] a=false then 4 else 0
def wl (s:ByteArray):List Nat:=s.data.toList.map fun b=>b.toNat - 97
theorem zet (s:ByteArray):(wl s).length=s.size:=by simp [wl]
theorem zdj (hk:k<s.size):(wl s)[k]?=some (s[k].toNat - 97):=by
 unfold wl;rw [eF,zcm s k hk];rfl
theorem zaE (h:zaX s=true) (hk:k<s.size):97<=s[k].toNat∧s[k].toNat<=102:=by
 unfold zaX at h;simp only [dH,eW] at h;have:=h.2 s[k] (dC (zcm s k hk));simp only [zde,decide_eq_true_eq] at this;omega
theorem zaL (h:zaX s=true):s.size<=50000:=by
 unfold zaX at h;simp only [dH,decide_eq_true_eq] at h;exact h.1
theorem ziu (h:zaX s=true):∀ l∈wl s,l<6:=by
 intro l hl;obtain⟨k,b⟩:=eP hl;have a:=(List.getElem?_eq_some_iff.1 b).1;rw [zet] at a;rw [zdj a] at b;have:=zaE h a;have:=Option.some.inj b;omega
def alB (ls:List Nat):Nat:=ls.foldl (fun u l=>u|||2 ^ l) 0
theorem alB_snoc (ls:List Nat) (l:Nat):alB (ls++[l])=alB ls|||2 ^ l:=by simp [alB]
theorem zeb (ls:List Nat) (k:Nat):(alB ls).testBit k=true↔k∈ls:=by
 have a:∀ (ls:List Nat) (u:Nat),(ls.foldl (fun u l=>u|||2 ^ l) u).testBit k=true↔u.testBit k=true∨k∈ls:=by
  intro ls
  induction ls with
  |nil=>intro u;simp
  |cons l r ih =>
   intro u;rw [iQ,ih,iY,Nat.testBit_two_pow,gV,decide_eq_true_eq,List.mem_cons];constructor
   ·rintro ((h|h)|h)
    ·exact Or.inl h
    ·exact Or.inr (Or.inl h.symm)
    ·exact Or.inr (Or.inr h)
   ·rintro (h|h|h)
    ·exact Or.inl (Or.inl h)
    ·exact Or.inl (Or.inr h.symm)
    ·exact Or.inr h
 have:=a ls 0;simpa [alB] using this
theorem alB_lt (h:∀ l∈ls,l<6):alB ls<64:=Nat.lt_pow_two_of_testBit (n:=6) _ fun k hk=>by
 rw [fH]
 intro hb
 have:=h k ((zeb ls k).1 hb)
 omega
def inB (s:ByteArray) (a:Nat):Bool:=decide (s.size<=50000)&&zew s a
theorem zaz (h:inB s a=true):zaX s=true:=by
 unfold inB at h;simp only [dH,decide_eq_true_eq] at h;unfold zaX;simp only [dH,decide_eq_true_eq];refine⟨h.1,?_⟩;rw [eW];intro b hb;have c:=h.2;unfold zew at c;rw [eW] at c;have d:=c b hb;unfold hasB ltr at d;simp only [dH,decide_eq_true_eq] at d;unfold zde;rw [decide_eq_true_eq];have f:=d.1
 split at f<;>omega
theorem zfr :inB s a=true↔zaX s=true∧alB (wl s)&&&a=alB (wl s):=by
 constructor
 ·intro h;have f:=zaz h;refine⟨f,gH fun k=>?_⟩;rw [gW];cases hk:(alB (wl s)).testBit k
  ·rfl
  ·rw [jD];have g:=(zeb _ k).1 hk;obtain⟨i,d⟩:=eP g;have c:=(List.getElem?_eq_some_iff.1 d).1;rw [zet] at c;rw [zdj c] at d;have hb:=zaE f c;have e:=Option.some.inj d;unfold inB zew at h;simp only [dH,eW] at h;have:=h.2 s[i] (dC (zcm s i c));unfold hasB ltr at this;rw [if_neg oM] at this;simp only [dH] at this;rw [← e,← this.2]
   congr 1
   omega
 ·rintro ⟨f,h⟩;unfold inB;simp only [dH,decide_eq_true_eq];refine⟨zaL f,?_⟩;unfold zew;rw [eW];intro b hb;obtain⟨i,d⟩:=eP hb;have c:i<s.size:=by have:=(List.getElem?_eq_some_iff.1 d).1;simpa using this
  rw [zcm s i c] at d;obtain rfl:=Option.some.inj d;have j:=zaE f c;unfold hasB ltr;rw [if_neg oM];have g:(alB (wl s)).testBit (s[i].toNat - 97)=true:=(zeb _ _).2 (dC (zdj c));rw [← h,gW,dH] at g;simp only [dH,decide_eq_true_eq];refine⟨oM,?_⟩;rw [show ((s[i].toNat:Int) - 97).toNat=s[i].toNat - 97 by omega];exact g.2
theorem zeI (hs:s.size<=9223372036854775807) :
  Calls Tryz.prog 219 #[s] w fun e w'=>e=.returned (.tuple #[.int .i64 (if zaX s=true then alB (wl s) else 0:Nat),.bool (zaX s)])∧w=w':=by
 cases hw:zaX s
 ·have f:=za hw;clear hw
  go_enter Tryz.func219,Tryz.ntmps219
  go_wp2_with (go_at_call 138;refine (zdE s _ hs).mono ?_;rw [f.out];rintro e w' ⟨rfl,rfl⟩)
  go_ret2;exact⟨rfl,rfl⟩
 ·have q:=zaL hw;have p:=za (fun k o=>zaE hw (k:=k) o);have t:=za (ziu hw);have f:=za hw;clear hw
  go_enter Tryz.func219,Tryz.ntmps219
  go_wp2_with (go_at_call 138;refine (zdE s _ hs).mono ?_;rw [f.out];rintro e w' ⟨rfl,rfl⟩)
  go_loop [4,5] (fun v i=>∃ k u:Nat,k<=s.size∧i=.int .i64 k∧v=.int .i64 u∧u<64∧Hid (u=alB ((wl s).take k))) (fun _ i=>s.size - (intOf i).toNat)
  case atStart=>exact⟨0,0,dG _,rfl,rfl,oM,rfl⟩
  case round =>
   obtain⟨k,u,o,rfl,rfl,r,d⟩:=hrel
   by_cases hlt:k<s.size
   ·have g:=p.out k hlt;obtain⟨l,h⟩:∃ l:Nat,Hid ((s[k].toNat:Int) - 97=l):=⟨s[k].toNat - 97,by unfold Hid;omega⟩;have j:l<6:=oH h.out;have m:=za (show alB ((wl s).take (k+1))=u|||2 ^ l by
     rw [eA,zdj hlt,eR,alB_snoc,← d.out]
     congr 2
     have:=h.out;omega)
    have c:=za (show bits .or .i64 (u:Nat) ((2:Int) ^ l)=((u|||2 ^ l:Nat):Int) by
     have:=zbi (a:=u) tM (Sm.bit (n:=l) oM);rw [show (((2:Nat) ^ l:Nat):Int)=(2:Int) ^ l by simp] at this;exact this)
    have b:u|||2 ^ l<64:=eV (n:=6) r (Nat.pow_lt_pow_right oM j)
    have x:=c.out;clear g;go_wp2_with (first
     |(go_at_call 141;refine (zbt s k hlt _).mono ?_;rw [h.out];rintro e w' ⟨rfl,rfl⟩)
     |(go_at_call 241;refine (zgA l oM _).mono ?_;rintro e w' ⟨rfl,rfl⟩))
    go_round
    case rel=>exact⟨k+1,u|||2 ^ l,oM,gM,by first|rfl|rw [c.out],b,m.symm⟩
    case measure=>simp [intOf];omega
   ·obtain rfl:k=s.size:=oM;have zjT:=za (show u=alB (wl s) by rw [d.out,dU (by rw [zet];exact dD _)]);go_wp2;go_ret2;exact⟨by rw [zjT.out];rfl,rfl⟩
theorem zai (hs:s.size<=9223372036854775807)(ha:a<=63) :
  Calls Tryz.prog 143 #[s,a] w fun e w'=>e=.returned (.bool (inB s a))∧w=w':=by
 have d:=za (show (decide ((0:Int)<=a∧(a:Int)<=63))=true by simp;omega);cases hw:zaX s
 ·have hr:=za (show inB s a=false by
   rw [fH];intro h;rw [zaz h] at hw;cases hw)
  have c:=za hw;clear hw
  go_enter Tryz.func143,Tryz.ntmps143
  go_wp2_with (go_at_call 219;refine (zeI hs).mono ?_;rw [c.out];rintro e w' ⟨rfl,rfl⟩)
  go_ret;exact⟨zm (by rw [hr.out]),rfl⟩
 ·obtain⟨u,g⟩:∃ u,Hid (alB (wl s)=u):=⟨_,rfl⟩;have i:u<64:=by rw [← g.out];exact alB_lt (ziu hw)
  have f:=za (zck (a:=u) (b:=a) tM tM);have hb:=f.out;have hr:=za (show inB s a=(((u&&&a:Nat):Int)==(u:Int)) by
   rw [gX,zfr,g.out,beq_iff_eq];constructor
   ·rintro ⟨_,h⟩;rw [h]
   ·intro h;exact⟨hw,oM⟩)
  have c:=za hw;clear hw
  go_enter Tryz.func143,Tryz.ntmps143
  go_wp2_with (first
   |(go_at_call 219;refine (zeI hs).mono ?_;rw [c.out,if_pos rfl,g.out];rintro e w' ⟨rfl,rfl⟩)
   |(go_at_call 139;refine (zT _ _).mono ?_;rw [d.out];rintro e w' ⟨rfl,rfl⟩))
  go_ret;exact⟨zm (by rw [hr.out]),rfl⟩
def zjb (bs:List UInt8):List Int:=bs.map fun b=>(b.toNat:Int)
def bcl (bs:List UInt8):List Value:=(zjb bs).map (Value.int .u8)
theorem bcl_length (bs:List UInt8):(bcl bs).length=bs.length:=by simp [bcl,zjb]
def zfS (a:Nat) (bs:List UInt8):List UInt8:=bs.filter fun b=>hasB a (ltr b.toNat)
def zac (s:ByteArray) (a:Nat):ByteArray:=strOfNums (zjb (zfS a s.data.toList))
theorem ziH (hk:k<s.size):zfS a (s.data.toList.take (k+1))=zfS a (s.data.toList.take k)++if hasB a (ltr s[k].toNat)=true then [s[k]] else []:=by
 rw [eA,zcm s k hk,eR];unfold zfS;rw [List.filter_append]
 congr 1
 cases h:hasB a (ltr s[k].toNat)<;>simp [h]
theorem zhD (s:ByteArray) (a k:Nat):(zfS a (s.data.toList.take k)).length<=s.size:=by
 refine eB (List.length_filter_le _ _) ?_;rw [e8];have:s.data.toList.length=s.size:=sM;omega
theorem zjg {W:World}  {A:Option Addr}  {bs:List UInt8}(h:W.ownsRow base 5 1 (.slice A n cap) n (bcl bs)) :
  (convert 62 9 (.slice A n cap)).run Tryz.prog W=.ok (.string (strOfNums (zjb bs))) W:=by
 have d:bs.length=n:=by have:=zdA h;rw [bcl_length] at this;omega
 rcases h.2 with ⟨a,j⟩|⟨g,c,f,a,_⟩
 ·injection a with a h3 h4
  subst a;subst h3;subst h4;obtain rfl:bs=[]:=eD d;exact run_convert_bytes_nil (P:=Tryz.prog) W 62 5 u8_row u8_und _ _ _ zjL
 ·injection a with a
  subst a;refine run_convert_bytes_arg (P:=Tryz.prog) W 62 5 u8_row u8_und g 0 n cap (zjb bs) (by simp [zjb,d]) (fun i hi=>?_) _ zjL;rw [eJ,h.cellAt i oM];unfold bcl;rw [eF];have b:i<(zjb bs).length:=by simp [zjb];omega
  rw [dE b];simp [List.getD,dE b]
theorem own_u8_lit (w:World):(w.alloc (.cells #[] 5)).ownsRow w.heap.size 5 1 (.slice (some w.heap.size) 0 0) 0 (bcl []):=World.ownsRow_lit w #[] 0 (dD _) lM rfl
theorem yH07a4 {P:Prop}(h:P:=by
 obtain rfl:k=s.size:=oM;have zjT:=za (show strOfNums (zjb bs)=zac s a by rw [hbs.out,List.take_of_length_le sM];rfl);obtain⟨A5,c5,rfl⟩:=zi zjQ;have hcv:=zjg zjQ;clear zjQ;go_wp2_with (simp only [hcv])
 go_ret;exact⟨by rw [zjT.out];rfl,hx⟩
 ):P:=h
theorem yH07a6 {P:Prop}(h:P:=by
 go_roundw
 case rel=>exact⟨k+1,bs++[s[k]],oM,gM,by rw [List.length_append];simpa [bcl,zjb] using zkc,hst2,by rw [List.length_append];exact hl3,hext5⟩
 case measure=>simp [intOf];omega
 ):P:=h
theorem zaK (hw:zaX s=true)(ha:a<=63) :
  Calls Tryz.prog 73 #[s,a] w fun e w'=>e=.returned (.string (zac s a))∧Ext w w':=by
 have m:=za (show (decide ((0:Int)<=a∧(a:Int)<=63))=true by simp;omega);have x:=zaL hw;have q:=za (fun k p=>zaE hw (k:=k) p);have r:=za hw;clear hw
 go_enter Tryz.func73,Tryz.ntmps73
 go_upto_region 3 with (first
  |(go_at_call 138;refine (zdE s _ oM).mono ?_;rw [r.out];rintro e w' ⟨rfl,rfl⟩)
  |(go_at_call 139;refine (zT _ _).mono ?_;rw [m.out];rintro e w' ⟨rfl,rfl⟩))
 go_upto_region 4 with fail
 have c:=own_u8_lit w;have j:=(dB w).alloc (.cells #[] 5);generalize hA0:(some ⟨w.heap.size,0,none⟩:Option Addr)=y at *;clear hA0;generalize w.alloc _=z at *;go_wp2_with fail
 go_loopw [5,6] (fun v i wr=>∃ (k:Nat) (bs:List UInt8),k<=s.size∧i=.int .i64 k∧wr.ownsRow w.heap.size 5 1 v bs.length (bcl bs)∧Hid (bs=zfS a (s.data.toList.take k))∧bs.length<=50000∧Ext w wr) (fun _ i _=>s.size - (intOf i).toNat)
 case atStart=>exact⟨0,[],dG _,rfl,c,rfl,sM,j⟩
 case round =>
  clear c j;obtain⟨k,bs,p,rfl,zjQ,hbs,n,hx⟩:=hrel
  by_cases hlt:k<s.size
  ·have t:=q.out k hlt;obtain⟨l,g⟩:∃ l:Nat,Hid ((s[k].toNat:Int) - 97=l):=⟨s[k].toNat - 97,by unfold Hid;omega⟩;have f:=za (show hasB a (ltr s[k].toNat)=a.testBit l by
    unfold hasB ltr;have:=g.out;rw [if_neg oM,this]
    simp)
   have h:=za (ziH (a:=a) hlt);have u:=zhD s a (k+1);have d:Sm a:=tM;have o:=za (show s.data.toList[k]?=some s[k] from zcm s k hlt);cases hb:a.testBit l
   ·have b:=za hb;have hst2:=za (show bs=zfS a (s.data.toList.take (k+1)) by rw [h.out,f.out,b.out,hbs.out];simp);clear hb;go_wp2_with (first
     |(go_at_call 141;refine (zbt s k hlt _).mono ?_;rw [g.out];rintro e w' ⟨rfl,rfl⟩)
     |(go_at_call 140;refine (zau a l d _ (oH g.out)).mono ?_;rw [b.out];rintro e w' ⟨rfl,rfl⟩))
    go_roundw
    case rel=>exact⟨k+1,bs,oM,gM,zjQ,hst2,n,hx⟩
    case measure=>simp [intOf];omega
   ·have b:=za hb;have hst2:=za (show bs++[s[k]]=zfS a (s.data.toList.take (k+1)) by rw [h.out,f.out,b.out,hbs.out];simp);have hl3:(bs++[s[k]]).length<=50000:=by rw [hst2.out];omega
    rw [eE,eO] at hl3;clear hb;go_wp2_with (first
     |(go_at_call 141;refine (zbt s k hlt _).mono ?_;rw [g.out];rintro e w' ⟨rfl,rfl⟩)
     |(go_at_call 140;refine (zau a l d _ (oH g.out)).mono ?_;rw [b.out];rintro e w' ⟨rfl,rfl⟩)
     |(at_builtin;refine zS w wr rfl _ _ _ rfl 5 _ 1 1 Tryz.underlying62 zjo rfl dM u5 _ _ _ _ rfl rfl hx zjQ rfl (zjd _) lM oM ?_;intro v' w5 hext5 zkc hg5 hat5))
    exact yH07a6
  ·exact yH07a4
theorem zbA (hw:zaX s=true)(ha:a<=63) :
  Calls Tryz.prog 83 #[s,a] w fun e w'=>e=.returned (.string (zac s a))∧Ext w w':=by
 have m:=zaL hw;have h:=za (fun k g=>zaE hw (k:=k) g);clear hw;have c:Sm a:=tM
 go_enter Tryz.func83,Tryz.ntmps83
 go_wp2_with fail
 go_loopw [5,6,9] (fun v _ i wr=>∃ (k:Nat) (bs:List UInt8),k<=s.size∧i=.int .i64 k∧wr.ownsRow w.heap.size 5 1 v bs.length (bcl bs)∧Hid (bs=zfS a (s.data.toList.take k))∧bs.length<=50000∧Ext w wr) (fun _ _ i _=>s.size - (intOf i).toNat)
 case atStart=>exact⟨0,[],dG _,rfl,World.ownsRow_nil _ _ _ _,rfl,sM,dB _⟩
 case round =>
  obtain⟨k,bs,g,rfl,zjQ,hbs,f,hx⟩:=hrel
  by_cases hlt:k<s.size
  ·have j:=h.out k hlt;have d:=za (ziH (a:=a) hlt);have l:=zhD s a (k+1);cases hb:hasB a (ltr s[k].toNat)
   ·have b:=za hb;have hst2:=za (show bs=zfS a (s.data.toList.take (k+1)) by rw [d.out,b.out,hbs.out];simp);clear hb;go_wp2_with (first
     |(go_at_call 153;refine (zaI s k hlt _).mono ?_;rintro e w' ⟨rfl,rfl⟩)
     |(go_at_call 161;refine (zbN a _ c _).mono ?_;rw [b.out];rintro e w' ⟨rfl,rfl⟩))
    go_roundw
    case rel=>exact⟨k+1,bs,oM,gM,zjQ,hst2,f,hx⟩
    case measure=>simp [intOf];omega
   ·have b:=za hb;have hst2:=za (show bs++[s[k]]=zfS a (s.data.toList.take (k+1)) by rw [d.out,b.out,hbs.out];simp);have hl3:(bs++[s[k]]).length<=50000:=by rw [hst2.out];omega
    rw [eE,eO] at hl3;clear hb;go_wp2_with (first
     |(go_at_call 153;refine (zaI s k hlt _).mono ?_;rintro e w' ⟨rfl,rfl⟩)
     |(go_at_call 161;refine (zbN a _ c _).mono ?_;rw [b.out];rintro e w' ⟨rfl,rfl⟩)
     |(at_builtin;refine zS w wr rfl _ _ _ rfl 5 _ 1 1 Tryz.underlying62 zjo rfl dM u5 _ _ _ _ rfl rfl hx zjQ rfl (zjd _) lM oM ?_;intro v' w5 hext5 zkc hg5 hat5))
    exact yH07a6
  ·exact yH07a4
def zgS (es:List Edg) (x:Nat) (ls:List Nat):Nat:=ls.foldl (fun m (l:Nat)=>zbL es m (l:Int)) x
theorem zgc (es:List Edg) (x:Nat) (ls:List Nat) (l:Nat):zgS es x (ls++[l])=zbL es (zgS es x ls) (l:Int):=by simp [zgS]
theorem runB_zero (es:List Edg) (ls:List Nat):zgS es 0 ls=0:=by
 induction ls with
 |nil=>rfl
 |cons l r ih=>rw [zgS,iQ,ziP];exact ih
theorem runB_end (h:zgS es x (ls.take k)=0):zgS es x ls=0:=by
 have e:ls=ls.take k++ls.drop k:=(List.take_append_drop k ls).symm;rw [e,zgS,List.foldl_append];show zgS es (zgS es x (ls.take k)) (ls.drop k)=0;rw [h,runB_zero]
section
variable {lo hi n c:Nat} {A:Option Addr} {s:Sys} {t:ByteArray} {w:World}
theorem runB_lt16 {p:Nat} (hf:Few p es)(hp:p<=16) (ls:List Nat):zgS es 1 ls<65536:=by
 rcases zad ls with rfl|⟨u,l,rfl⟩
 ·simp [zgS]
 ·rw [zgc];refine eM (zjK hf _ _) ?_;rw [show (65536:Nat)=2 ^ 16 from rfl];exact eQ oM hp
theorem spec_l2Run (h:zQ w lo hi A n s)(hv:zk s=true)(ht:zaX t=true) :
  Calls Tryz.prog 286 #[.agg #[s.al,s.st,.slice A n c],(1:Int),t] w fun e w'=>e=.returned (.int .i64 (zgS s.edges 1 (wl t):Nat))∧Ext w w':=by
 obtain⟨p,G,H,f,q⟩:=zcq hv;have C:=za (fun W (hW:Ext w W)=>h.ext hW);have I:=zaL ht;have D:=za (fun k u=>zaE ht (k:=k) u);have E:=za q;have m:=za (fun ls=>runB_lt16 q f ls);clear h hv ht q G
 go_enter Tryz.func286,Tryz.ntmps286
 go_upto_region 1 with fail
 generalize U0:w.alloc _=w1 at *;obtain⟨hw1,b1⟩:=gL U0;clear U0;go_wp2_with fail
 go_loopw [1,7] (fun v i wr=>∃ k x:Nat,i=.int .i64 k∧k<=t.size∧v=.int .i64 x∧x<65536∧Hid (x=zgS s.edges 1 ((wl t).take k))∧Ext w1 wr) (fun _ i _=>t.size - (intOf i).toNat)
 case atStart=>exact⟨0,1,rfl,dG _,rfl,oM,rfl,dB _⟩
 case round =>
  obtain⟨k,x,rfl,u,rfl,hx,b,hxr⟩:=hrel
  by_cases hlt:k<t.size
  ·by_cases hx0:x=0
   ·subst hx0;have zjT:=za (show zgS s.edges 1 (wl t)=0 from runB_end b.out.symm);go_wp2;go_ret;exact⟨zL (by rw [zjT.out]),hw1.trans hxr⟩
   ·have F:((x:Int) != 0)=true:=by simp;try omega
    have o:=D.out k hlt;obtain⟨l,z⟩:∃ l:Nat,Hid ((t[k].toNat:Int) - 97=l):=⟨t[k].toNat - 97,by unfold Hid;omega⟩;have g:=za (show zbL s.edges x (l:Int)=zgS s.edges 1 ((wl t).take (k+1)) by
     rw [eA,zdj hlt,eR,zgc,← b.out]
     congr 1
     have:=z.out;omega)
    have d:=m.out ((wl t).take (k+1));rw [← g.out] at d;have B:=za (fun W (hW:Ext w1 W)=>zfz (c:=c) (set:=x) (l:=(l:Int)) (C.out W (hw1.trans hW)) E.out f tM);generalize zbL s.edges x (l:Int)=y at *;have c1:∀ W,Ext wr W->∀ j,W.cell? ⟨w.heap.size,j,none⟩=#[Value.int .i64 s.al,.int .i64 s.st,.slice A n c][j]?:=fun W hW=>(b1.ext (hxr.trans hW)).cell;have a:=dB wr;clear o;go_upto_region 4 with fail
    refine uR (fun X=>Ext wr X) [5] (zv.of [0,1,2,3,4,5,6]) ?_;refine uQ ?_;refine ze fun K hK=>?_;go_simp;refine (zbt t k hlt _).mono ?_;rw [z.out];rintro e w' ⟨rfl,rfl⟩;refine hK.out _ _ a.drew ?_;refine pT ?_;refine zb fun K hK=>?_;go_simp;refine (B.out _ (hxr.trans a.drew)).mono (mQ fun J r=>?_);refine hK.out _ _ ?_;refine pT ?_;refine uQ ?_;refine zf ?_;have hx6:=hxr.trans (a.drew.trans r);go_wp2_with fail
    go_roundw
    case rel=>exact⟨k+1,y,gM,oM,rfl,d,g,hx6⟩
    case measure=>simp [intOf];omega
  ·obtain rfl:k=t.size:=oM;have zjT:=za (show x=zgS s.edges 1 (wl t) by rw [b.out,dU (by rw [zet];exact dD _)]);go_wp2;go_ret;exact⟨zL (by rw [zjT.out]),hw1.trans hxr⟩
def zfa (s:Sys) (t:ByteArray):Nat:=if (zk s&&inB t s.al.toNat)=true then zgS s.edges 1 (wl t) else 0
theorem zgV (h:zQ w lo hi A n s)(ht:t.size<=9223372036854775807) :
  Calls Tryz.prog 282 #[.agg #[s.al,s.st,.slice A n c],t] w fun e w'=>e=.returned (.int .i64 (zfa s t:Nat))∧Ext w w':=by
 have k:=za (fun W (hW:Ext w W)=>h.ext hW);have f:=za (fun W (hW:Ext w W)=>zan (c:=c) (h.ext hW));clear h;have hw1:Ext w (w.alloc (.cells #[s.al,s.st,.slice A n c] 38)):=(dB w).alloc _;have b1:=Blk.new w 38 #[s.al,s.st,.slice A n c];cases hv:zk s
 ·have d:=za hv;have hr:=za (show zfa s t=0 by unfold zfa;rw [hv];rfl);clear hv
  go_enter Tryz.func282,Tryz.ntmps282
  go_upto_region 1 with fail
  generalize w.alloc _=w1 at *;have c1:=b1.cell;go_wp2_with (go_at_call 199;refine (f.out _ hw1).mono ?_;rw [d.out];rintro e w2 ⟨rfl,hx2⟩)
  go_ret;exact⟨zL (by rw [hr.out];rfl),hw1.trans hx2⟩
 ·have l:=zD hv;obtain⟨al,a⟩:∃ al:Nat,Hid (s.al=al):=⟨s.al.toNat,by unfold Hid;omega⟩;have b:al<=63:=oH a.out;have hr:=za (show zfa s t=if inB t al=true then zgS s.edges 1 (wl t) else 0 by unfold zfa;rw [hv,a.out];simp);have d:=za hv;cases hi:inB t al
  ·have g:=za hi;rw [hi] at hr;clear hv hi
   go_enter Tryz.func282,Tryz.ntmps282
   go_upto_region 1 with fail
   generalize w.alloc _=w1 at *;have c1:=b1.cell;go_wp2_with (first
    |(go_at_call 199;refine (f.out _ hw1).mono ?_;rw [d.out];rintro e w2 ⟨rfl,hx2⟩;have j:=((b1.ext hx2).cell 0).trans (show #[Value.int .i64 s.al,.int .i64 s.st,.slice A n c][0]?=some (Value.int .i64 (al:Nat)) by rw [a.out];rfl))
    |(go_at_call 143;refine (zai ht b).mono ?_;rw [g.out];rintro e w3 ⟨rfl,rfl⟩))
   go_ret;exact⟨zL (by rw [hr.out];rfl),hw1.trans hx2⟩
  ·have g:=za hi;have i:=za (zaz hi);rw [hi,if_pos rfl] at hr;clear hv hi
   go_enter Tryz.func282,Tryz.ntmps282
   go_upto_region 1 with fail
   generalize w.alloc _=w1 at *;have c1:=b1.cell;go_upto_region 3 with (first
    |(go_at_call 199;refine (f.out _ hw1).mono ?_;rw [d.out];rintro e w2 ⟨rfl,hx2⟩;have j:=((b1.ext hx2).cell 0).trans (show #[Value.int .i64 s.al,.int .i64 s.st,.slice A n c][0]?=some (Value.int .i64 (al:Nat)) by rw [a.out];rfl))
    |(go_at_call 143;refine (zai ht b).mono ?_;rw [g.out];rintro e w3 ⟨rfl,rfl⟩))
   have hw2:=hw1.trans hx2;have m:=(b1.ext hx2).cell;clear j c1;go_wp2_with (go_at_call 286;refine (spec_l2Run (k.out _ hw2) d.out i.out).mono (mQ fun w4 hx4=>?_))
   go_ret;exact⟨zL (by rw [hr.out]),hw2.trans hx4⟩
theorem zgO (h:zQ w lo hi A n s)(hT:Tab w)(ht:t.size<=9223372036854775807) :
  Calls Tryz.prog 184 #[.agg #[s.al,s.st,.slice A n c],t] w fun e w'=>e=.returned (.int .i64 (zfa s t:Nat))∧Ext w w':=by
 have L:=za (fun W (hW:Ext w W)=>h.ext hW);have M:=za (fun W (hW:Ext w W)=>hT.ext hW);have r:=za (fun W (hW:Ext w W)=>zaH (c:=c) (h.ext hW));clear h hT;have hw1:Ext w (w.alloc (.cells #[s.al,s.st,.slice A n c] 38)):=(dB w).alloc _;have b1:=Blk.new w 38 #[s.al,s.st,.slice A n c];cases hv:zk s
 ·have o:=za hv;have hr:=za (show zfa s t=0 by unfold zfa;rw [hv];rfl);clear hv
  go_enter Tryz.func184,Tryz.ntmps184
  go_upto_region 1 with fail
  generalize w.alloc _=w1 at *;have c1:=b1.cell;go_wp2_with (go_at_call 108;refine (r.out _ hw1).mono ?_;rw [o.out];rintro e w2 ⟨rfl,hx2⟩)
  go_ret;exact⟨zL (by rw [hr.out];rfl),hw1.trans hx2⟩
 ·have R:=zD hv;obtain⟨al,a⟩:∃ al:Nat,Hid (s.al=al):=⟨s.al.toNat,by unfold Hid;omega⟩;have b:al<=63:=oH a.out;have hr:=za (show zfa s t=if inB t al=true then zgS s.edges 1 (wl t) else 0 by unfold zfa;rw [hv,a.out];simp);have o:=za hv;cases hi:inB t al
  ·have u:=za (show (decide (t.size<=50000)&&zew t al)=false from hi);rw [hi] at hr;clear hv hi
   go_enter Tryz.func184,Tryz.ntmps184
   go_upto_region 1 with fail
   generalize w.alloc _=w1 at *;have c1:=b1.cell;go_wp2_with (first
    |(go_at_call 108;refine (r.out _ hw1).mono ?_;rw [o.out];rintro e w2 ⟨rfl,hx2⟩;have F:=((b1.ext hx2).cell 0).trans (show #[Value.int .i64 s.al,.int .i64 s.st,.slice A n c][0]?=some (Value.int .i64 (al:Nat)) by rw [a.out];rfl))
    |(go_at_call 103;refine (zaZ t al _ ht b).mono ?_;rw [u.out];rintro e w3 ⟨rfl,rfl⟩))
   go_ret;exact⟨zL (by rw [hr.out];rfl),hw1.trans hx2⟩
  ·have u:=za (show (decide (t.size<=50000)&&zew t al)=true from hi);have d:=zaz hi;obtain⟨p,T,U,j,B⟩:=zcq hv;have V:=zaL d;have O:=za (fun k G=>zaE d (k:=k) G);have E:=za B;have q:=za (fun ls=>runB_lt16 B j ls);rw [hi,if_pos rfl] at hr;clear hv hi B T d
   go_enter Tryz.func184,Tryz.ntmps184
   go_upto_region 1 with fail
   generalize w.alloc _=w1 at *;have c1:=b1.cell;go_upto_region 3 with (first
    |(go_at_call 108;refine (r.out _ hw1).mono ?_;rw [o.out];rintro e w2 ⟨rfl,hx2⟩;have F:=((b1.ext hx2).cell 0).trans (show #[Value.int .i64 s.al,.int .i64 s.st,.slice A n c][0]?=some (Value.int .i64 (al:Nat)) by rw [a.out];rfl))
    |(go_at_call 103;refine (zaZ t al _ ht b).mono ?_;rw [u.out];rintro e w3 ⟨rfl,rfl⟩))
   have hw2:=hw1.trans hx2;have Q:=(b1.ext hx2).cell;clear F c1;go_wp2_with (go_at_call 227;refine (zdo (L.out _ hw2) (fun e he=>by have:=E.out e he;omega)).mono ?_;rintro e w4 ⟨X,rfl,_,H,hx4⟩)
   have hw4:=hw2.trans hx4;have J:=za (fun W (hW:Ext w4 W)=>(H.ext hW).at_);clear H Q
   go_loopw [6,7] (fun v i wr=>∃ k x:Nat,i=.int .i64 k∧k<=t.size∧v=.int .i64 x∧x<65536∧Hid (x=zgS s.edges 1 ((wl t).take k))∧Ext w4 wr) (fun _ i _=>t.size - (intOf i).toNat)
   case atStart=>exact⟨0,1,rfl,dG _,rfl,oM,rfl,dB _⟩
   case round =>
    obtain⟨k,x,rfl,G,rfl,hx,f,hxr⟩:=hrel
    by_cases hlt:k<t.size
    ·by_cases hx0:x=0
     ·subst hx0;have zjT:=za (show zgS s.edges 1 (wl t)=0 from runB_end f.out.symm);go_wp2;go_ret;exact⟨zL (by rw [hr.out,zjT.out]),hw4.trans hxr⟩
     ·have S:((x:Int) != 0)=true:=by simp;try omega
      have z:=O.out k hlt;obtain⟨l,C⟩:∃ l:Nat,Hid (ltr t[k].toNat=l∧l<6∧t[k].toNat - 97=l):=⟨t[k].toNat - 97,by unfold Hid ltr;rw [if_neg oM];omega⟩;have D:=C.out.2.1;have m:=za (show zbL s.edges x (l:Int)=zgS s.edges 1 ((wl t).take (k+1)) by
       rw [eA,zdj hlt,eR,zgc,← f.out,C.out.2.2])
      have g:=q.out ((wl t).take (k+1));rw [← m.out] at g;have I:=za (fun W (hW:Ext w4 W)=>impl_step (J.out W hW) (M.out W (hw4.trans hW)) (show x<2 ^ 16 from hx) D E.out j);generalize zbL s.edges x (l:Int)=y at *;clear z;go_wp2_with (first
       |(go_at_call 153;refine (zaI t k hlt _).mono ?_;rw [C.out.1];rintro e w' ⟨rfl,rfl⟩)
       |(go_at_call 246;refine (I.out _ hxr).mono (mQ fun Y hx6=>?_)))
      go_roundw
      case rel=>exact⟨k+1,y,gM,oM,rfl,g,m,hxr.trans hx6⟩
      case measure=>simp [intOf];omega
    ·obtain rfl:k=t.size:=oM;have zjT:=za (show x=zgS s.edges 1 (wl t) by rw [f.out,dU (by rw [zet];exact dD _)]);go_wp2;go_ret;exact⟨zL (by rw [hr.out,zjT.out]),hw4.trans hxr⟩
theorem zjy (h:zQ w lo hi A n s)(ht:t.size<=9223372036854775807) :
  Calls Tryz.prog 262 #[.agg #[s.al,s.st,.slice A n c],t] w fun e w'=>e=.returned (.bool (zfa s t != 0))∧Ext w w':=by
 have a:=za (fun W (hW:Ext w W)=>zgV (c:=c) (h.ext hW) ht);have hr:=za (show (((zfa s t:Nat):Int) != 0)=(zfa s t != 0) by rw [gX];simp;try omega);generalize zfa s t=y at *
 go_enter Tryz.func262,Tryz.ntmps262
 go_wp2_with (go_at_call 282;refine (a.out _ ((dB _).alloc _)).mono (mQ fun w2 hx2=>?_))
 go_ret;exact⟨zm (by rw [hr.out]),((dB _).alloc _).trans hx2⟩
theorem zjn (h:zQ w lo hi A n s)(hT:Tab w)(ht:t.size<=9223372036854775807) :
  Calls Tryz.prog 105 #[.agg #[s.al,s.st,.slice A n c],t] w fun e w'=>e=.returned (.bool (zfa s t != 0))∧Ext w w':=by
 have a:=za (fun W (hW:Ext w W)=>zgO (c:=c) (h.ext hW) (hT.ext hW) ht);have hr:=za (show (((zfa s t:Nat):Int) != 0)=(zfa s t != 0) by rw [gX];simp;try omega);generalize zfa s t=y at *
 go_enter Tryz.func105,Tryz.ntmps105
 go_wp2_with (go_at_call 184;refine (a.out _ ((dB _).alloc _)).mono (mQ fun w2 hx2=>?_))
 go_ret;exact⟨zm (by rw [hr.out]),((dB _).alloc _).trans hx2⟩
end
theorem zcA (s:ByteArray) (a:Nat):(zac s a).size<=s.size:=by
 have h:=zhD s a s.size;rw [dU sM] at h;have e:(zac s a).size=(zjb (zfS a s.data.toList)).length:=by unfold zac;rw [strOfNums_size]
 rw [e,zjb,List.length_map];exact h
def topB (ss:List Sys) (t:ByteArray):Bool:=zy ss&&(inB t (zE ss)&&ss.all fun s=>zfa s (zac t s.al.toNat) != 0)
section
variable {lo hi n c:Nat} {A:Option Addr} {ss:List Sys} {t:ByteArray} {w:World}
theorem all_next {f:Sys->Bool}  {s:Sys}(h:ss[k]?=some s)(ha:(ss.take k).all f=true)(hf:f s=true):(ss.take (k+1)).all f=true:=by
 rw [eA,h,List.all_append,ha];simp [hf]
theorem all_not {f:Sys->Bool}  {s:Sys}(h:ss[k]?=some s)(hf:f s=false):ss.all f=false:=by
 rw [List.all_eq_false];exact⟨s,dC h,by simp [hf]⟩
theorem yH07a3 {P:Prop}(h:P:=by
 cases hb:(zfa s t' != 0)
 ·have hff:=za (hF.out hb);clear hF hN;go_wp2;go_ret;exact⟨zm (by rw [hr.out,hff.out]),hxr.trans hx6⟩
 ·have hnn:=za (hN.out hb);clear hF hN;go_wp2_with fail
  go_roundw
  case rel=>exact⟨k+1,oM,gM,hnn,hxr.trans hx6⟩
  case measure=>simp [intOf];omega
 ):P:=h
theorem yH07a5 {P:Prop}(h:P:=by
 obtain rfl:k=n:=oM;have zjT:=za (show (ss.all fun s=>zfa s (zac t s.al.toNat) != 0)=true by have:=hall.out;rwa [List.take_of_length_le (oH hL.out)] at this);go_wp2;go_ret;exact⟨zm (by rw [hr.out,zjT.out]),hxr⟩
 ):P:=h
theorem spec_TraceOfParts (h:zdG w lo hi A n ss)(ht:t.size<=9223372036854775807) :
  Calls Tryz.prog 202 #[.slice A n c,t] w fun e w'=>e=.returned (.bool (topB ss t))∧Ext w w':=by
 have R:=h.len;have hL:=za h.1;have r:=za (fun W (hW:Ext w W)=>h.ext hW);clear h;cases hp:zy ss
 ·have a:=za (show zaJ ss = -1 by unfold zaJ;rw [hp];rfl);have hr:=za (show topB ss t=false by unfold topB;rw [hp];rfl);clear hp
  go_enter Tryz.func202,Tryz.ntmps202
  go_wp2_with (go_at_call 207;refine (zW (r.out _ (dB _))).mono ?_;rw [a.out];rintro e w1 ⟨rfl,hx⟩)
  go_ret;exact⟨zm (by rw [hr.out]),hx⟩
 ·have J:=za (zaf hp).2;have I:=zgl J.out;have a:=za (show zaJ ss=(zE ss:Int) by unfold zaJ;rw [hp];rfl);have hr:=za (show topB ss t=(inB t (zE ss)&&ss.all fun s=>zfa s (zac t s.al.toNat) != 0) by unfold topB;rw [hp];rfl);clear hp;generalize zE ss=u at *;cases hi:inB t u
  ·have v:=za hi;rw [hi] at hr;clear hi
   go_enter Tryz.func202,Tryz.ntmps202
   go_wp2_with (first
    |(go_at_call 207;refine (zW (r.out _ (dB _))).mono ?_;rw [a.out];rintro e w1 ⟨rfl,hx⟩)
    |(go_at_call 143;refine (zai ht I).mono ?_;rw [v.out];rintro e w3 ⟨rfl,rfl⟩))
   go_ret;exact⟨zm (by rw [hr.out];rfl),hx⟩
  ·have v:=za hi;have C:=za (zaz hi);rw [hi,jD] at hr;clear hi
   go_enter Tryz.func202,Tryz.ntmps202
   go_wp2_with (first
    |(go_at_call 207;refine (zW (r.out _ (dB _))).mono ?_;rw [a.out];rintro e w1 ⟨rfl,hx⟩)
    |(go_at_call 143;refine (zai ht I).mono ?_;rw [v.out];rintro e w3 ⟨rfl,rfl⟩))
   go_loopw [6] (fun i wr=>∃ k:Nat,k<=n∧i=.int .i64 k∧Hid ((ss.take k).all (fun s=>zfa s (zac t s.al.toNat) != 0)=true)∧Ext w wr) (fun i _=>n - (intOf i).toNat)
   case atStart=>exact⟨0,dG _,rfl,rfl,hx⟩
   case round =>
    clear hx;obtain⟨k,Q,rfl,hall,hxr⟩:=hrel
    by_cases hlt:k<n
    ·obtain⟨b,o,s,B,q,d,rfl,_,_,z,H,c1,M,m⟩:=(r.out wr hxr).sys hlt;obtain⟨x,y⟩:=zD (J.out s (dC z.out));obtain⟨al,j⟩:∃ al:Nat,Hid (s.al=al):=⟨s.al.toNat,by unfold Hid;omega⟩;have l:al<=63:=oH j.out;have p:s.al.toNat=al:=oH j.out;have g:=eB (zcA t al) ht;have L:=za (fun W=>zaK (w:=W) C.out l);have G:=za (fun W (hW:Ext wr W)=>zjy (c:=d) (m.ext hW) g);rw [j.out] at H G;have O:∀ W,Ext wr W->W.cell? ⟨b,o+k*3,none⟩=some (.int .i64 al):=fun W hW=>hW.aa H;have d1:∀ W,Ext wr W->W.cell? ⟨b,o+k*3+1,none⟩=some (.int .i64 s.st):=fun W hW=>hW.aa c1;have d2:∀ W,Ext wr W->W.cell? ⟨b,o+k*3+2,none⟩=some (.slice B q d):=fun W hW=>hW.aa M;have hN:=za (fun hb=>all_next (f:=fun s=>zfa s (zac t s.al.toNat) != 0) z.out hall.out hb);have hF:=za (fun hb=>all_not (f:=fun s=>zfa s (zac t s.al.toNat) != 0) z.out hb);simp only [p] at hN hF;clear p g m x y hall;generalize zac t al=t' at *;have D:=dB wr;go_upto_region 7 with fail
     refine uR (fun X=>Ext wr X) [11] (zv.of [0,1,2,3,4,5,6,7,8,9,10,11,12]) ?_;refine uQ ?_;refine ze fun K hK=>?_;go_simp;refine (L.out _).mono (mQ fun w' E=>?_);have hx2:=D.drew.trans E;refine hK.out _ _ hx2 ?_;refine pT ?_;refine zb fun K hK=>?_;go_simp;refine (G.out _ hx2).mono (mQ fun S F=>?_);refine hK.out _ _ ?_;refine pT ?_;refine uQ ?_;refine zf ?_;have hx6:=hx2.trans F;exact yH07a3
    ·exact yH07a5
theorem impl_TraceOfParts (h:zdG w lo hi A n ss)(hT:Tab w)(ht:t.size<=9223372036854775807) :
  Calls Tryz.prog 50 #[.slice A n c,t] w fun e w'=>e=.returned (.bool (topB ss t))∧Ext w w':=by
 have V:=h.len;have hL:=za h.1;have l:=za (fun W (hW:Ext w W)=>h.ext hW);have Q:=za (fun W (hW:Ext w W)=>hT.ext hW);clear h hT;cases hp:zy ss
 ·have y:=za hp;have hr:=za (show topB ss t=false by unfold topB;rw [hp];rfl);clear hp
  go_enter Tryz.func50,Tryz.ntmps50
  go_wp2_with (go_at_call 94;refine (zak (l.out _ (dB _))).mono ?_;rw [y.out];rintro e w1 ⟨rfl,hx⟩)
  go_ret;exact⟨zm (by rw [hr.out]),hx⟩
 ·have y:=za hp;have L:=za (zaf hp).2;have J:=zgl L.out;have m:=za (show zaJ ss=(zE ss:Int) by unfold zaJ;rw [hp];rfl);have hr:=za (show topB ss t=(inB t (zE ss)&&ss.all fun s=>zfa s (zac t s.al.toNat) != 0) by unfold topB;rw [hp];rfl);clear hp;generalize zE ss=u at *;cases hi:inB t u
  ·have z:=za (show (decide (t.size<=50000)&&zew t u)=false from hi);rw [hi] at hr;clear hi
   go_enter Tryz.func50,Tryz.ntmps50
   go_wp2_with (first
    |(go_at_call 94;refine (zak (l.out _ (dB _))).mono ?_;rw [y.out];rintro e w1 ⟨rfl,a⟩)
    |(go_at_call 104;refine (zbk (l.out _ a)).mono ?_;rw [m.out];rintro e w2 ⟨rfl,hx⟩)
    |(go_at_call 103;refine (zaZ t u _ ht J).mono ?_;rw [z.out];rintro e w3 ⟨rfl,rfl⟩))
   go_ret;exact⟨zm (by rw [hr.out];rfl),a.trans hx⟩
  ·have z:=za (show (decide (t.size<=50000)&&zew t u)=true from hi);have F:=za (zaz hi);rw [hi,jD] at hr;clear hi
   go_enter Tryz.func50,Tryz.ntmps50
   go_wp2_with (first
    |(go_at_call 94;refine (zak (l.out _ (dB _))).mono ?_;rw [y.out];rintro e w1 ⟨rfl,a⟩)
    |(go_at_call 104;refine (zbk (l.out _ a)).mono ?_;rw [m.out];rintro e w2 ⟨rfl,hx⟩)
    |(go_at_call 103;refine (zaZ t u _ ht J).mono ?_;rw [z.out];rintro e w3 ⟨rfl,rfl⟩))
   go_loopw [6,19] (fun _ i wr=>∃ k:Nat,k<=n∧i=.int .i64 k∧Hid ((ss.take k).all (fun s=>zfa s (zac t s.al.toNat) != 0)=true)∧Ext w wr) (fun _ i _=>n - (intOf i).toNat)
   case atStart=>exact⟨0,dG _,rfl,rfl,a.trans hx⟩
   case round =>
    clear hx a;obtain⟨k,U,rfl,hall,hxr⟩:=hrel
    by_cases hlt:k<n
    ·obtain⟨b,o,s,B,q,d,rfl,_,_,E,S,c1,T,r⟩:=(l.out wr hxr).sys hlt;obtain⟨C,D⟩:=zD (L.out s (dC E.out));obtain⟨al,j⟩:∃ al:Nat,Hid (s.al=al):=⟨s.al.toNat,by unfold Hid;omega⟩;have p:al<=63:=oH j.out;have v:s.al.toNat=al:=oH j.out;have g:=eB (zcA t al) ht;have O:=za (fun W=>zbA (w:=W) F.out p);have I:=za (fun W (hW:Ext wr W)=>zjn (c:=d) (r.ext hW) (Q.out W (hxr.trans hW)) g);rw [j.out] at S I;have hN:=za (fun hb=>all_next (f:=fun s=>zfa s (zac t s.al.toNat) != 0) E.out hall.out hb);have hF:=za (fun hb=>all_not (f:=fun s=>zfa s (zac t s.al.toNat) != 0) E.out hb);simp only [v] at hN hF;clear v g r C D hall;generalize zac t al=t' at *;go_upto_region 6 with fail
     generalize U0:wr.alloc _=M at *;obtain⟨x,R⟩:=gL U0;clear U0;have c5:=R.cells;have G:=dB M;refine uR (fun X=>Ext M X) [5] (zv.of [0,1,2,3,4,5,6]) ?_;refine uQ ?_;refine ze fun K hK=>?_;go_simp;refine (O.out _).mono (mQ fun w' a=>?_);have hx2:=G.drew.trans a;refine hK.out _ _ hx2 ?_;refine pT ?_;refine zb fun K hK=>?_;go_simp;refine (I.out _ (x.trans hx2)).mono (mQ fun Y H=>?_);refine hK.out _ _ ?_;refine pT ?_;refine uQ ?_;refine zf ?_;have hx6:=x.trans (hx2.trans H);exact yH07a3
    ·exact yH07a5
end
def zfI (hd:Bool) (a:Aut) (s:ByteArray):Bool:=if hd then zj a&&s.toList.isEmpty else autNone a&&zaX s
def zaR (p:Aut) (q:Nat) (ls:List Nat):Nat:=ls.foldl (aGo p) q
theorem zbs (p:Aut) (q:Nat) (ls:List Nat) (l:Nat):zaR p q (ls++[l])=aGo p (zaR p q ls) l:=by simp [zaR]
theorem zdB (hv:zj p=true) (h:∀ l∈ls,l<6) (hq:q<p.next.length):zaR p q ls<p.next.length:=by
 induction ls generalizing q with
 |nil=>exact hq
 |cons l r ih=>exact ih (fun x hx=>h x (eS _ hx)) (zdH hv hq (h l iG))
theorem runA_filter (p:Aut) (ls:List Nat) (q:Nat):zaR p q (ls.filter fun l=>p.al.toNat.testBit l)=zaR p q ls:=by
 induction ls generalizing q with
 |nil=>rfl
 |cons l r ih =>
  rw [List.filter_cons];show _=zaR p (aGo p q l) r;cases hb:p.al.toNat.testBit l
  ·have e:aGo p q l=q:=by unfold aGo;rw [hb];rfl
   rw [e];simpa using ih q
  ·simp only [if_true];exact ih (aGo p q l)
theorem ziN (s:ByteArray) (a:Nat):(zac s a).data.toList=zfS a s.data.toList:=by
 unfold zac strOfNums zjb;simp only [List.map_map];refine (List.map_congr_left (g:=id) fun b _=>?_).trans (List.map_id _);simp
theorem zjP (h:zaX s=true) (a:Nat):wl (zac s a)=(wl s).filter fun l=>a.testBit l:=by
 unfold wl;rw [ziN];unfold zfS;have hb:∀ b∈s.data.toList,97<=b.toNat∧b.toNat<=102:=by
  intro b hb;obtain⟨i,f⟩:=eP hb;have c:i<s.size:=by have:=(List.getElem?_eq_some_iff.1 f).1;simpa using this
  rw [zcm s i c] at f;obtain rfl:=Option.some.inj f;exact zaE h c
 generalize s.data.toList=L at hb;clear h
 induction L with
 |nil=>rfl
 |cons b r d =>
  have g:=hb b iG;have d:=d fun x hx=>hb x (eS _ hx);have e:hasB a (ltr b.toNat)=a.testBit (b.toNat - 97):=by
   unfold hasB ltr;rw [if_neg oM,decide_eq_true oM,jD]
   congr 1
   omega
  rw [List.filter_cons,gJ,List.filter_cons,e];cases a.testBit (b.toNat - 97)
  ·simpa using d
  ·simp only [if_true,gJ];rw [d]
theorem zbO (h:zaX s=true) (a:Nat):inB (zac s a) a=true:=by
 unfold inB zew;rw [ziN,dH,decide_eq_true_eq];refine⟨eB (zcA s a) (zaL h),?_⟩;rw [eW];intro b hb;exact (List.mem_filter.1 hb).2
def breakB (p:Aut) (t:ByteArray):Bool:=zj p&&(zaX t&&!zcC p (zaR p 0 (wl t)))
section
variable {lo hi m d m' d':Nat} {B B':Option Addr} {p:Aut} {t:ByteArray} {w:World}
theorem spec_l3Run (h:zF w lo hi B m B' m' p)(hv:zj p=true)(ht:zaX t=true) :
  Calls Tryz.prog 263 #[.agg #[p.al,.slice B m d,.slice B' m' d'],(0:Int),t] w fun e w'=>e=.returned (.int .i64 (zaR p 0 (wl t):Nat))∧Ext w w':=by
 have C:=za (fun W (hW:Ext w W)=>h.ext hW);have G:=zaL ht;have D:=za (fun k u=>zaE ht (k:=k) u);have F:=(zl hv).2.1;have E:=za hv;have f:=za (fun k=>zdB hv (ls:=(wl t).take k) (fun l c=>ziu ht l (gG c)) (q:=0) oM);clear h hv ht
 go_enter Tryz.func263,Tryz.ntmps263
 go_upto_region 1 with fail
 generalize U0:w.alloc _=w1 at *;obtain⟨hw1,b1⟩:=gL U0;clear U0;go_wp2_with fail
 go_loopw [1,7] (fun v i wr=>∃ k x:Nat,i=.int .i64 k∧k<=t.size∧v=.int .i64 x∧Hid (x=zaR p 0 ((wl t).take k))∧Ext w1 wr) (fun _ i _=>t.size - (intOf i).toNat)
 case atStart=>exact⟨0,0,rfl,dG _,rfl,rfl,dB _⟩
 case round =>
  obtain⟨k,x,rfl,u,rfl,b,hxr⟩:=hrel
  by_cases hlt:k<t.size
  ·have g:=D.out k hlt;obtain⟨l,c⟩:∃ l:Nat,Hid ((t[k].toNat:Int) - 97=l):=⟨t[k].toNat - 97,by unfold Hid;omega⟩;have n:l<6:=oH c.out;have o:=za (show aGo p x l=zaR p 0 ((wl t).take (k+1)) by
    rw [eA,zdj hlt,eR,zbs,← b.out]
    congr 1
    have:=c.out;omega)
   have s:x<p.next.length:=by rw [b.out];exact f.out k
   have z:=za (fun W (hW:Ext w1 W)=>zdV (d:=d) (d':=d') (C.out W (hw1.trans hW)) E.out s n);generalize aGo p x l=y at *;have c1:∀ W,Ext wr W->∀ j,W.cell? ⟨w.heap.size,j,none⟩=#[Value.int .i64 p.al,.slice B m d,.slice B' m' d'][j]?:=fun W hW=>(b1.ext (hxr.trans hW)).cell;have a:=dB wr;clear g;go_upto_region 4 with fail
   refine uR (fun X=>Ext wr X) [5] (zv.of [0,1,2,3,4,5,6]) ?_;refine uQ ?_;refine ze fun K hK=>?_;go_simp;refine (zbt t k hlt _).mono ?_;rw [c.out];rintro e w' ⟨rfl,rfl⟩;refine hK.out _ _ a.drew ?_;refine pT ?_;refine zb fun K hK=>?_;go_simp;refine (z.out _ (hxr.trans a.drew)).mono (mQ fun H r=>?_);refine hK.out _ _ ?_;refine pT ?_;refine uQ ?_;refine zf ?_;have hx6:=hxr.trans (a.drew.trans r);go_wp2_with fail
   go_roundw
   case rel=>exact⟨k+1,y,gM,oM,rfl,o,hx6⟩
   case measure=>simp [intOf];omega
  ·obtain rfl:k=t.size:=oM;have zjT:=za (show x=zaR p 0 (wl t) by rw [b.out,dU (by rw [zet];exact dD _)]);go_wp2;go_ret;exact⟨zL (by rw [zjT.out]),hw1.trans hxr⟩
end
section
variable {lo hi m d m' d':Nat} {B B':Option Addr} {p:Aut} {t:ByteArray} {w:World}
theorem zhy (h:zF w lo hi B m B' m' p)(hv:zj p=true)(ht:inB t p.al.toNat=true) :
  Calls Tryz.prog 185 #[.agg #[p.al,.slice B m d,.slice B' m' d'],t] w fun e w'=>e=.returned (.int .i64 (zaR p 0 (wl t):Nat))∧Ext w w':=by
 have M:=za (fun W (hW:Ext w W)=>zcI (d:=d) (d':=d') (h.ext hW) hv);have L:=za (fun W (hW:Ext w W)=>zA _ _ _ _ d _ _ d' _ _ (h.ext hW));have a:=zaz ht;have ab:=zaL a;have T:=za (fun k O=>zaE a (k:=k) O);have aa:=(zl hv).2.1;obtain⟨E,F⟩:=(zl hv).1;obtain⟨al,b⟩:∃ al:Nat,Hid (p.al=al):=⟨p.al.toNat,by unfold Hid;omega⟩;have n:al<=63:=oH b.out;have u:p.al.toNat=al:=oH b.out;rw [u] at ht;have U:=za (show (decide (t.size<=50000)&&zew t al)=true from ht);have V:=za hv;have D:=za (fun k=>zdB hv (ls:=(wl t).take k) (fun l r=>ziu a l (gG r)) (q:=0) oM);clear h hv ht u a;rw [b.out] at M L ⊢;clear E F
 go_enter Tryz.func185,Tryz.ntmps185
 go_upto_region 1 with fail
 generalize U0:w.alloc _=w1 at *;obtain⟨hw1,b1⟩:=gL U0;clear U0;have c1:=b1.cell;go_wp2_with (first
  |(go_at_call 95;refine (L.out _ hw1).mono ?_;rw [V.out];rintro e w2 ⟨rfl,hx2⟩;have hw2:=hw1.trans hx2;have Y:=(b1.ext hx2).cell)
  |(go_at_call 103;refine (zaZ t al _ oM n).mono ?_;rw [U.out];rintro e w3 ⟨rfl,rfl⟩)
  |(go_at_call 151;refine (M.out _ hw2).mono ?_;rintro e w4 ⟨TA,tc,rfl,j,hx4⟩))
 have hw4:=hw2.trans hx4;have S:=za (fun W (hW:Ext w4 W)=>(j.ext hW).at_);clear j c1 Y
 go_loopw [6,7,22] (fun v _ i wr=>∃ k x:Nat,i=.int .i64 k∧k<=t.size∧v=.int .i64 x∧Hid (x=zaR p 0 ((wl t).take k))∧Ext w4 wr) (fun _ _ i _=>t.size - (intOf i).toNat)
 case atStart=>exact⟨0,0,rfl,dG _,rfl,rfl,dB _⟩
 case round =>
  obtain⟨k,x,rfl,O,rfl,f,hxr⟩:=hrel
  by_cases hlt:k<t.size
  ·have H:=T.out k hlt;obtain⟨l,r⟩:∃ l:Nat,Hid (ltr t[k].toNat=l∧l<6∧t[k].toNat - 97=l):=⟨t[k].toNat - 97,by unfold Hid ltr;rw [if_neg oM];omega⟩;have s:=r.out.2.1;have Q:((l:Nat):Int)<6:=oM;have J:=za (show aGo p x l=zaR p 0 ((wl t).take (k+1)) by
    rw [eA,zdj hlt,eR,zbs,← f.out,r.out.2.2])
   have C:x<p.next.length:=by rw [f.out];exact D.out k
   obtain⟨ad,Z,c⟩:=S.out wr hxr;have R:=za (fun W (hW:Ext wr W)=>(c.ext hW).at_ C s);obtain⟨g,o,G,I⟩:=c.at_ C s;subst G;generalize aGo p x l=y at *;have d1:∀ W,Ext wr W->W.cell? ⟨g,o+x*6+l,none⟩=some (.int .i64 (y:Nat)):=fun W hW=>hW.aa I;clear H c R;generalize p.next.length=N at *;go_upto_region 8 with fail
   have z:=dB wr;refine uR (fun X=>Ext wr X) [] (zv.of [0,1,2,3,5,4,6,7,8]) ?_;refine uQ ?_;refine ze fun K hK=>?_;go_simp;refine (zaI t k hlt _).mono ?_;rw [r.out.1];rintro e w' ⟨rfl,rfl⟩;refine hK.out _ _ z.drew ?_;refine pT ?_;refine uQ ?_;refine zf ?_;have hx6:=hxr.trans z.drew;go_wp2_with fail
   go_roundw
   case rel=>exact⟨k+1,y,gM,oM,rfl,J,hx6⟩
   case measure=>simp [intOf];omega
  ·obtain rfl:k=t.size:=oM;have zjT:=za (show x=zaR p 0 (wl t) by rw [f.out,dU (by rw [zet];exact dD _)]);go_wp2;go_ret;exact⟨zL (by rw [zjT.out]),hw4.trans hxr⟩
theorem zgN (h:zF w lo hi B m B' m' p)(hv:zj p=true)(ht:inB t p.al.toNat=true) :
  Calls Tryz.prog 107 #[.agg #[p.al,.slice B m d,.slice B' m' d'],t] w fun e w'=>e=.returned (.bool (zcC p (zaR p 0 (wl t))))∧Ext w w':=by
 have j:=za (fun W (hW:Ext w W)=>zhy (d:=d) (d':=d') (h.ext hW) hv ht);have i:=za (fun W (hW:Ext w W) q g=>zex (q:=q) (h.ext hW) g);have g:=zdB hv (ziu (zaz ht)) (q:=0) (by have:=(zl hv).2.1;omega);have c:=(zl hv).2.2.1;have f:=h.n2;have b:zaR p 0 (wl t)<m':=oM;clear h hv ht c;generalize hqe:zaR p 0 (wl t)=q at *;clear hqe g f;obtain⟨k,a,_⟩:=i.out w (dB w) q b;have n:∀ W,Ext w W->W.cell? (k.add q)=some (.bool (zcC p q)):=by
  intro W hW;obtain⟨l,e,r⟩:=i.out W hW q b;rw [a] at e;obtain rfl:=Option.some.inj e;exact r
 subst a
 go_enter Tryz.func107,Tryz.ntmps107
 go_upto_region 1 with fail
 generalize U0:w.alloc _=w1 at *;obtain⟨hw1,b1⟩:=gL U0;clear U0;have c1:=b1.cell;go_wp2_with (go_at_call 185;refine (j.out _ hw1).mono (mQ fun w2 hx2=>?_);have s:=(b1.ext hx2).cell;have o:=n _ (hw1.trans hx2))
 go_ret;exact⟨zm (by rfl),hw1.trans hx2⟩
theorem impl_BreaksProperty (h:zF w lo hi B m B' m' p)(ht:t.size<=9223372036854775807) :
  Calls Tryz.prog 51 #[.agg #[p.al,.slice B m d,.slice B' m' d'],t] w fun e w'=>e=.returned (.bool (breakB p t))∧Ext w w':=by
 have k:=za (fun W (hW:Ext w W)=>zA _ _ _ _ d _ _ d' _ _ (h.ext hW));have hr:=za (show breakB p t=(zj p&&(zaX t&&!zcC p (zaR p 0 (wl t)))) from rfl);have hw1:Ext w (w.alloc (.cells #[p.al,.slice B m d,.slice B' m' d'] 31)):=(dB w).alloc _;have b1:=Blk.new w 31 #[p.al,.slice B m d,.slice B' m' d'];cases h1:zj p
 ·have b:=za h1;clear h1
  go_enter Tryz.func51,Tryz.ntmps51
  go_upto_region 1 with fail
  generalize w.alloc _=w1 at *;have c1:=b1.cells;have a:=dB w1;refine uR (fun X=>Ext w1 X) [12] (zv.of [0,1,2,3,4,5,6,7,8,9,10,11,12,13,14,15]) ?_;refine uQ ?_;refine ze fun K hK=>?_;go_simp;refine (k.out _ (hw1.trans a.drew)).mono ?_;rw [b.out];rintro e w2 ⟨rfl,hx2⟩;have hx3:=a.drew.trans hx2;refine hK.out _ _ hx3 ?_;refine pT ?_;refine uQ ?_;refine zf ?_;go_wp2_with fail
  go_ret;exact⟨zm (by rw [hr.out,b.out];rfl),hw1.trans hx3⟩
 ·cases h2:zaX t
  ·have b:=za h1;have g:=za h2;clear h1 h2
   go_enter Tryz.func51,Tryz.ntmps51
   go_upto_region 1 with fail
   generalize w.alloc _=w1 at *;have c1:=b1.cells;have a:=dB w1;refine uR (fun X=>Ext w1 X) [12] (zv.of [0,1,2,3,4,5,6,7,8,9,10,11,12,13,14,15]) ?_;refine uQ ?_;refine ze fun K hK=>?_;go_simp;refine (k.out _ (hw1.trans a.drew)).mono ?_;rw [b.out];rintro e w2 ⟨rfl,hx2⟩;have hx3:=a.drew.trans hx2;refine hK.out _ _ hx3 ?_;refine pT ?_;refine uQ ?_;refine ze fun K hK=>?_;go_simp;refine (zfg _ _ ht).mono ?_;rw [g.out];rintro e w3 ⟨rfl,rfl⟩;refine hK.out _ _ hx3 ?_;refine pT ?_;refine uQ ?_;refine zf ?_;go_wp2_with fail
   go_ret;exact⟨zm (by rw [hr.out,b.out,g.out];rfl),hw1.trans hx3⟩
  ·obtain⟨n,o⟩:=(zl h1).1;obtain⟨al,c⟩:∃ al:Nat,Hid (p.al=al):=⟨p.al.toNat,by unfold Hid;omega⟩;have i:al<=63:=oH c.out;have j:=za (show p.al.toNat=al by have:=c.out;omega);have r:=za (fun W=>zbA (w:=W) h2 i);have l:=za (fun W (hW:Ext w W)=>zgN (d:=d) (d':=d') (t:=zac t al) (h.ext hW) h1 (by rw [j.out];exact zbO h2 al));have q:=za (show zaR p 0 (wl (zac t al))=zaR p 0 (wl t) by rw [zjP h2,← j.out,runA_filter]);rw [q.out] at l;have b:=za h1;have g:=za h2;clear h h1 h2 n o;rw [c.out] at k l hw1 b1 ⊢;generalize zac t al=t' at *
   go_enter Tryz.func51,Tryz.ntmps51
   go_upto_region 1 with fail
   generalize w.alloc _=w1 at *;have c1:=b1.cells;have a:=dB w1;refine uR (fun X=>Ext w1 X) [12] (zv.of [0,1,2,3,4,5,6,7,8,9,10,11,12,13,14,15]) ?_;refine uQ ?_;refine ze fun K hK=>?_;go_simp;refine (k.out _ (hw1.trans a.drew)).mono ?_;rw [b.out];rintro e w2 ⟨rfl,hx2⟩;have hx3:=a.drew.trans hx2;refine hK.out _ _ hx3 ?_;refine pT ?_;refine uQ ?_;refine ze fun K hK=>?_;go_simp;refine (zfg _ _ ht).mono ?_;rw [g.out];rintro e w3 ⟨rfl,rfl⟩;refine hK.out _ _ hx3 ?_;refine pT ?_;refine uQ ?_;refine ze fun K hK=>?_;go_simp;refine (r.out _).mono (mQ fun w4 hx4=>?_);have f:=hx3.trans hx4;refine hK.out _ _ f ?_;refine pT ?_;refine uQ ?_;refine zb fun K hK=>?_;go_simp;refine (l.out _ (hw1.trans f)).mono (mQ fun s hx6=>?_);refine hK.out _ _ ?_;refine pT ?_;refine uQ ?_;refine zf ?_;go_wp2_with fail
   go_ret;exact⟨zm (by rw [hr.out,b.out,g.out];rfl),hw1.trans (f.trans hx6)⟩
end
theorem iface_neg (s t:Sys) (p:Aut):iface s p t<0↔(zk s&&(zj p&&zk t))=false:=by
 unfold iface;cases h:(zk s&&(zj p&&zk t))
 ·simp
 ·simp
theorem pnx_mod (ms:List Mem) (x l:Nat):pnx ms x l=pnx ms (x % zH ms) l:=by
 induction ms generalizing x with
 |nil=>rfl
 |cons m r ih =>
  rw [zdR];unfold pnx;have a:x % (m.1*zH r) / zH r % m.1=x / zH r % m.1:=by
   rw [fY,jV,Nat.mod_mod]
  have b:pnx r (x % (m.1*zH r)) l=pnx r x l:=by
   rw [ih (x % (m.1*zH r)),Nat.mod_mul_left_mod,← ih x]
  rw [a,b]
theorem goes_lt {ms:List Mem}(hm:∀ m∈ms,zeu m) (hv:∀ l∈v,l<6) (h:zbw (pnx ms) [0] v x):x<zH ms:=by
 rcases zad v with rfl|⟨u,l,rfl⟩
 ·have:=h.ah;have a:=zga hm;simp at this;omega
 ·obtain⟨n,_,hx⟩:=h.inv;exact ziL hm (hv l sM) x hx
theorem mem_lt {m:Mem}(hm:zeu m) (hv:∀ l∈v,l<6) (h:zbw m.2 [0] v q):q<m.1:=by
 have a:∀ n (v:List Nat),v.length=n->(∀ l∈v,l<6)->∀ q,zbw m.2 [0] v q->q<m.1:=by
  intro n
  induction n with
  |zero =>
   intro v hl _ q h;obtain rfl:=eD hl;have:=h.ah;have:=hm.1;simp at *;omega
  |succ n ih =>
   intro v hl hv q h;rcases zad v with rfl|⟨u,l,rfl⟩
   ·simp at hl
   ·obtain⟨b,c,d⟩:=h.inv;exact hm.2 b l (ih u (by simpa using hl) (fun k hk=>hv k (by simp [hk])) b c) (hv l sM) q d
 exact a _ v rfl hv q h
theorem zfN {m:Mem} {r:List Mem}(hm:zeu m)(hr:∀ m∈r,zeu m):∀ (n:Nat) (v:List Nat),v.length=n->(∀ l∈v,l<6)->∀ x,zbw (pnx (m :: r)) [0] v x↔∃ q y,x=q*zH r+y∧zbw m.2 [0] v q∧zbw (pnx r) [0] v y:=by
 intro n
 induction n with
 |zero =>
  intro v hl _ x;obtain rfl:=eD hl;constructor
  ·intro h;have:=h.ah;simp at this;subst this;exact⟨0,0,sM,.nil sM,.nil sM⟩
  ·rintro ⟨q,y,rfl,b,a⟩;have b:=b.ah;have a:=a.ah;simp at b a;subst b;subst a;exact .nil sM
 |succ n j =>
  intro v hl hv x;rcases zad v with rfl|⟨u,l,rfl⟩
  ·simp at hl
  have p:∀ k∈u,k<6:=fun k hk=>hv k (by simp [hk]);have D:l<6:=hv l sM;have j:=j u (by simpa using hl) p;have H:=zga hr;have c:∀ q y,zbw m.2 [0] u q->zbw (pnx r) [0] u y->pnx (m :: r) (q*zH r+y) l=(m.2 q l).flatMap fun d=>(pnx r y l).map fun f=>d*zH r+f:=by
   intro q y b a;have E:=mem_lt hm p b;have F:=goes_lt hr p a;show (m.2 ((q*zH r+y) / zH r % m.1) l).flatMap (fun d=>(pnx r (q*zH r+y) l).map fun f=>d*zH r+f)=_;have z:(q*zH r+y) / zH r % m.1=q:=by
    rw [fY,Nat.mul_add_div oM,jJ F,Nat.add_zero,iN E]
   have B:pnx r (q*zH r+y) l=pnx r y l:=by
    rw [pnx_mod r (q*zH r+y),fY,Nat.mul_add_mod,← pnx_mod]
   rw [z,B]
  constructor
  ·intro h;obtain⟨G,b,a⟩:=h.inv;obtain⟨q,y,rfl,g,i⟩:=(j G).1 b;rw [c q y g i] at a;simp only [List.mem_flatMap,List.mem_map] at a;obtain⟨d,o,f,s,rfl⟩:=a;exact⟨d,f,rfl,.snoc g o,.snoc i s⟩
  ·rintro ⟨d,f,rfl,b,a⟩;obtain⟨q,g,i⟩:=b.inv;obtain⟨y,t,C⟩:=a.inv;refine .snoc ((j (q*zH r+y)).2 ⟨q,y,rfl,g,t⟩) ?_;rw [c q y g t];simp only [List.mem_flatMap,List.mem_map];exact⟨d,i,f,C,rfl⟩
def Runs (s:Sys) (v:List Nat):Prop:=∃ q,zbw (cho s) [0] v q
theorem zhf (a:Aut) (v:List Nat) (q:Nat):zbw (zbC a).2 [0] v q↔q=zaR a 0 v:=by
 have c:∀ n (v:List Nat),v.length=n->∀ q,zbw (zbC a).2 [0] v q↔q=zaR a 0 v:=by
  intro n
  induction n with
  |zero =>
   intro v hl q;obtain rfl:=eD hl;constructor
   ·intro h;have:=h.ah;simp at this;subst this;rfl
   ·rintro rfl;exact .nil (by simp [zaR])
  |succ n b =>
   intro v hl q;rcases zad v with rfl|⟨u,l,rfl⟩
   ·simp at hl
   rw [zbs];have b:=b u (by simpa using hl);constructor
   ·intro h;obtain⟨g,f,d⟩:=h.inv;rw [(b g).1 f] at d;simpa [zbC] using d
   ·rintro rfl;exact .snoc ((b _).2 rfl) (by simp [zbC])
 exact c _ v rfl q
theorem goes_nil (v:List Nat) (y:Nat):zbw (pnx []) [0] v y↔y=0:=by
 have b:∀ n (v:List Nat),v.length=n->∀ y,zbw (pnx []) [0] v y↔y=0:=by
  intro n
  induction n with
  |zero =>
   intro v hl y;obtain rfl:=eD hl;exact⟨fun h=>by simpa using h.ah,fun h=>.nil (by simp [h])⟩
  |succ n a =>
   intro v hl y;rcases zad v with rfl|⟨u,l,rfl⟩
   ·simp at hl
   have a:=a u (by simpa using hl);constructor
   ·intro h;obtain⟨f,d,c⟩:=h.inv;simpa [pnx] using c
   ·rintro rfl;exact .snoc ((a 0).2 rfl) (by simp [pnx])
 exact b _ v rfl y
theorem zhg {a:Aut}(ha:zj a=true)(hp:zj p=true) (hv:∀ l∈v,l<6) (y:Nat):zbw (pnx [zbC a,zbC p]) [0] v y↔y=zaR a 0 v*p.next.length+zaR p 0 v:=by
 have d:∀ m∈[zbC p],zeu m:=by simp;exact zbE hp
 have g:zH [zbC p]=p.next.length:=by simp [zH,zay,zbC]
 have b:∀ z,zbw (pnx [zbC p]) [0] v z↔z=zaR p 0 v:=by
  intro z;rw [zfN (zbE hp) sM _ v rfl hv];constructor
  ·rintro ⟨q,y,rfl,b,c⟩;rw [(goes_nil v y).1 c,(zhf p v q).1 b];simp [zH,zay]
  ·rintro rfl;exact⟨zaR p 0 v,0,by simp [zH,zay],(zhf p v _).2 rfl,(goes_nil v 0).2 rfl⟩
 rw [zfN (zbE ha) d _ v rfl hv,g];constructor
 ·rintro ⟨q,y,rfl,c,f⟩;rw [(zhf a v q).1 c,(b y).1 f]
 ·rintro rfl;exact⟨_,_,rfl,(zhf a v _).2 rfl,(b _).2 rfl⟩
theorem ziD {T:List Mem}(hT:∀ m∈T,zeu m) (hv:∀ l∈v,l<6) (g:Nat->Prop):∀ {ss:List Sys},(∀ s∈ss,zeu (zdZ s))->((∃ x,zbw (pnx (ss.map zdZ++T)) [0] v x∧g (x % zH T))↔(∀ s∈ss,Runs s v)∧∃ y,zbw (pnx T) [0] v y∧g y):=by
 intro ss
 induction ss with
 |nil =>
  intro _;simp only [List.map_nil,eY,List.not_mem_nil,false_implies,implies_true,true_and];constructor
  ·rintro ⟨x,h,c⟩;rw [iN (goes_lt hT hv h)] at c;exact⟨x,h,c⟩
  ·rintro ⟨x,h,c⟩;exact⟨x,h,by rwa [iN (goes_lt hT hv h)]⟩
 |cons s r j =>
  intro hs;have d:=hs s iG;have f:=fun t a=>hs t (eS _ a);have j:=j f;have hr:∀ m∈r.map zdZ++T,zeu m:=by
   intro m hm;rcases List.mem_append.1 hm with h|h
   ·obtain⟨t,a,rfl⟩:=List.mem_map.1 h;exact f t a
   ·exact hT m h
  have b:∀ q y,(q*zH (r.map zdZ++T)+y) % zH T=y % zH T:=by
   intro q y;rw [zce,← Nat.mul_assoc,fY,Nat.mul_add_mod]
  rw [gJ,List.cons_append];constructor
  ·rintro ⟨x,h,c⟩;obtain⟨q,y,rfl,i,k⟩:=(zfN d hr _ v rfl hv x).1 h;rw [b] at c;obtain⟨n,o⟩:=j.1 ⟨y,k,c⟩;refine⟨fun t a=>?_,o⟩;rcases List.mem_cons.1 a with rfl|a
   ·exact⟨q,i⟩
   ·exact n t a
  ·rintro ⟨i,k⟩;obtain⟨y,n,o⟩:=j.2 ⟨fun t a=>i t (eS _ a),k⟩;obtain⟨q,p⟩:=i s iG;exact⟨q*zH (r.map zdZ++T)+y,(zfN d hr _ v rfl hv _).2 ⟨q,y,rfl,p,n⟩,by rwa [b]⟩
def zfC (ss:List Sys) (a p:Aut) (v:List Nat):Prop:=(∀ s∈ss,Runs s v)∧zcC a (zaR a 0 v)=true∧zcC p (zaR p 0 v)=false
theorem vio_iff {a:Aut}(hss:∀ s∈ss,zk s=true)(ha:zj a=true)(hp:zj p=true) :
  vioB ss a p=true↔∃ v,(∀ l∈v,l∈letters (zE ss|||a.al.toNat) 6)∧zfC ss a p v:=by
 have k:∀ s∈ss,zeu (zdZ s):=fun s hs=>zeG (zcr (hss s hs));have B:∀ m∈[zbC a,zbC p],zeu m:=by simp;exact⟨zbE ha,zbE hp⟩
 have z:zH [zbC a,zbC p]=a.next.length*p.next.length:=by simp [zH,zay,zbC]
 have D:=(zl ha).2.1;have E:=(zl hp).2.1;have c:∀ x,zbS a p x=zbS a p (x % zH [zbC a,zbC p]):=by
  intro x;unfold zbS;rw [z,Nat.mod_mul_left_mod,fY,jV,Nat.mod_mod]
 have i:∀ v,(∀ l∈v,l<6)->((∃ x,zbw (zcl ss a p) [0] v x∧zbS a p x=true)↔zfC ss a p v):=by
  intro v d;rw [zdl];have r:=ziD B d (fun y=>zbS a p y=true) k;have t:(∃ x,zbw (pnx (zbj ss [a,p])) [0] v x∧zbS a p x=true)↔(∃ x,zbw (pnx (ss.map zdZ++[zbC a,zbC p])) [0] v x∧zbS a p (x % zH [zbC a,zbC p])=true):=by
   constructor
   ·rintro ⟨x,h,b⟩;exact⟨x,h,by rw [← c];exact b⟩
   ·rintro ⟨x,h,b⟩;exact⟨x,h,by rw [c];exact b⟩
  rw [t,r];unfold zfC;refine and_congr_right fun _=>?_;have j:=zdB ha d (q:=0) oM;have g:=zdB hp d (q:=0) oM;have n:(zaR a 0 v*p.next.length+zaR p 0 v) / p.next.length % a.next.length=zaR a 0 v:=by
   rw [fY,Nat.mul_add_div oM,jJ g,Nat.add_zero,iN j]
  have o:(zaR a 0 v*p.next.length+zaR p 0 v) % p.next.length=zaR p 0 v:=by
   rw [fY,Nat.mul_add_mod,iN g]
  constructor
  ·rintro ⟨y,C,b⟩;rw [(zhg ha hp d y).1 C] at b;unfold zbS at b;rw [n,o] at b;simpa using b
  ·intro b;refine⟨_,(zhg ha hp d _).2 rfl,?_⟩;unfold zbS;rw [n,o];simpa using b
 unfold vioB lostB;rw [Bool.not_eq_true',@decide_eq_false_iff_not _ (Classical.propDecidable _)];constructor
 ·intro hn;apply Classical.byContradiction;intro hno;refine hn fun v d x hx=>?_;cases hb:zbS a p x
  ·rfl
  ·exact absurd ⟨v,d,(i v (fun l f=>zcw _ l (d l f))).1 ⟨x,hx,hb⟩⟩ hno
 ·rintro ⟨v,d,u⟩ f;obtain⟨x,hx,b⟩:=(i v (fun l f=>zcw _ l (d l f))).2 u;have:=f v d x hx;rw [b] at this;cases this
def hidL (s:Sys) (A l:Nat):Prop:=l<6∧s.al.toNat.testBit l=true∧A.testBit l=false
inductive Cl (s:Sys) (p:Aut) (A:Nat) (B:Nat->Nat->Prop):Nat->Nat->Prop
 |base {q i:Nat} (h:B q i):Cl s p A B q i
 |hid {q i l q':Nat} (h:Cl s p A B q i) (hl:hidL s A l) (hq:q'∈cho s q l):Cl s p A B q' (aGo p i l)
def mvB (s:Sys) (p:Aut) (l:Nat) (B:Nat->Nat->Prop):Nat->Nat->Prop:=fun q' j=>∃ q i,B q i∧q'∈cho s q l∧j=aGo p i l
def prR (s:Sys) (p:Aut) (A:Nat):List Nat->Nat->Nat->Prop
 |[]=>Cl s p A (fun q i=>q=0∧i=0)
 |l :: r=>Cl s p A (mvB s p l (prR s p A r))
def PR (s:Sys) (p:Aut) (A:Nat) (v:List Nat):Nat->Nat->Prop:=prR s p A v.reverse
theorem PR_nil (s:Sys) (p:Aut) (A:Nat):PR s p A []=Cl s p A (fun q i=>q=0∧i=0):=rfl
theorem PR_snoc (s:Sys) (p:Aut) (A:Nat) (v:List Nat) (l:Nat):PR s p A (v++[l])=Cl s p A (mvB s p l (PR s p A v)):=by
 unfold PR;rw [List.reverse_append];rfl
def Bad (s:Sys) (p:Aut) (A:Nat) (v:List Nat):Prop:=∃ q i,PR s p A v q i∧zcC p i=false
def SafeW (s:Sys) (p:Aut) (A:Nat) (v:List Nat):Prop:=∀ k,k<=v.length->¬ Bad s p A (v.take k)
theorem zhn {s:Sys}(hs:Sml s) (hb:s.al.toNat.testBit l=true) (set q':Nat):(zbL s.edges set (l:Int)).testBit q'=true↔∃ q,set.testBit q=true∧q'∈cho s q l:=by
 obtain⟨m,n,h,-⟩:=hs;rw [zdW];constructor
 ·rintro ⟨e,b,⟨c,a⟩,rfl⟩;obtain⟨i,j,k⟩:=h e b;refine⟨e.fr.toNat,a,?_⟩;unfold cho;rw [if_pos hb,zG];refine⟨oM,(zem _ _ _ _).2 ⟨e,b,?_,rfl⟩⟩;exact⟨oM,c⟩
 ·rintro ⟨q,c,a⟩;unfold cho at a;rw [if_pos hb,zG] at a;obtain⟨e,b,⟨d,f⟩,g⟩:=(zem _ _ _ _).1 a.2;exact⟨e,b,⟨f,by rw [d];simpa using c⟩,g⟩
theorem zgB {s:Sys}(hs:Sml s) (x:Nat) (l:Int):zbL s.edges x l<65536:=by
 have a:=zjK hs.2.2.1 x l;have b:(2:Nat) ^ s.st.toNat<=2 ^ 16:=eQ oM (oH hs.2.1);exact eM a b
def zdK (T:List Nat) (i q:Nat):Prop:=(T.getD i 0).testBit q=true
theorem zht (h:zdK T i q):i<T.length:=by
 rcases Nat.lt_or_ge i T.length with a|a
 ·exact a
 ·unfold zdK at h;rw [dI,List.getElem?_eq_none a] at h;simp at h
theorem zcT (hj:j<T.length) (x i q:Nat):zdK (T.set j (T.getD j 0|||x)) i q↔zdK T i q∨(i=j∧x.testBit q=true):=by
 unfold zdK
 by_cases h:j=i
 ·subst h;rw [dI,fI hj,fW,iY,gV];simp
 ·rw [dI,gF h,← dI];constructor
  ·exact .inl
  ·rintro (a|⟨a,-⟩)
   ·exact a
   ·exact absurd a.symm h
def zbx (T:List Nat) (n:Nat) (B:Nat->Nat->Prop):Prop:=T.length=n∧(∀ x∈T,x<65536)∧∀ i q,zdK T i q↔B q i
structure ClI (s:Sys) (p:Aut) (A:Nat) (B:Nat->Nat->Prop) (n:Nat) (T:List Nat):Prop where
 len:T.length=n
 lt:∀ x∈T,x<65536
 base:∀ q i,B q i->zdK T i q
 sub:∀ i q,zdK T i q->Cl s p A B q i
def zeT (s:Sys) (p:Aut) (T:List Nat) (i l:Nat):Prop:=∀ q,zdK T i q->∀ q'∈cho s q l,zdK T (aGo p i l) q'
section
variable {s:Sys} {p:Aut} {A n:Nat} {B:Nat->Nat->Prop} {T:List Nat}
theorem zbx.clI (h:zbx T n B):ClI s p A B n T:=⟨h.1,h.2.1,fun q i hb=>(h.2.2 i q).2 hb,fun i q hb=>.base ((h.2.2 i q).1 hb)⟩
theorem zbT (h:∀ x∈T,x<65536) (i:Nat):T.getD i 0<65536:=by
 rw [dI];cases h1:T[i]? with
 |none=>simp
 |some x=>exact h x (dC h1)
theorem ClI.step (h:ClI s p A B n T)(hs:Sml s)(hp:zj p=true)(hn:n=p.next.length) (hi:i<n)(hl:hidL s A l) :
  ClI s p A B n (T.set (aGo p i l) (T.getD (aGo p i l) 0|||zbL s.edges (T.getD i 0) (l:Int))):=by
 have b:aGo p i l<T.length:=by rw [h.len,hn];exact zdH hp oM hl.1
 refine⟨by rw [fX];exact h.len,fun x hx=>?_,fun q i' hb=>(zcT b _ _ _).2 (.inl (h.base q i' hb)),fun i' q hb=>?_⟩
 ·rcases fV hx with hx|rfl
  ·exact h.lt x hx
  ·exact eV (n:=16) (zbT h.lt _) (eM (zjK hs.2.2.1 _ _) (eQ oM (oH hs.2.1)))
 ·rcases (zcT b _ _ _).1 hb with a|⟨rfl,a⟩
  ·exact h.sub _ _ a
  ·obtain⟨f,c,d⟩:=(zhn hs hl.2.1 _ _).1 a;exact .hid (h.sub _ _ c) hl d
theorem closedAt_of (hs:Sml s) (hl:hidL s A l)(he:T.getD (aGo p i l) 0|||zbL s.edges (T.getD i 0) (l:Int)=T.getD (aGo p i l) 0):zeT s p T i l:=by
 intro q hq q' hq';unfold zdK;rw [← he,iY,(zhn hs hl.2.1 _ _).2 ⟨q,hq,hq'⟩,Bool.or_true]
theorem ClI.fin (h:ClI s p A B n T)(hc:∀ i l,i<n->hidL s A l->zeT s p T i l):zbx T n (Cl s p A B):=by
 refine⟨h.len,h.lt,fun i q=>⟨h.sub i q,fun hb=>?_⟩⟩
 induction hb with
 |base hb=>exact h.base _ _ hb
 |hid _ hl hq ih=>exact hc _ _ (by rw [← h.len];exact zht ih) hl _ ih _ hq
end
def room:List Nat->Nat
 |[]=>0
 |x :: r=>(65536 - x)+room r
theorem room_set:∀ (T:List Nat) (j x:Nat),(T.getD j 0|||x)<65536->room (T.set j (T.getD j 0|||x))<=room T∧(j<T.length->T.getD j 0|||x≠T.getD j 0->room (T.set j (T.getD j 0|||x))<room T)
 |[],j,x,_=>by simp [room]
 |a :: r,0,x,h=>by
  simp only [List.getD_cons_zero,List.set_cons_zero,room] at h ⊢
  have h1:a<=a|||x:=Nat.left_le_or
  refine⟨oM,fun _ h2=>oM⟩
 |a :: r,j+1,x,h=>by
  simp only [List.getD_cons_succ,List.set_cons_succ,room,List.length_cons] at h ⊢
  obtain⟨h1,h2⟩:=room_set r j x h
  refine⟨oM,fun h3 h4=>by have:=h2 oM h4;omega⟩
theorem sub_bit (ha:a<64)(hb:b<64) (l:Nat):l∈letters (a - (a&&&b)) 6↔l<6∧a.testBit l=true∧b.testBit l=false:=by
 rw [zG];refine and_congr_right fun hl=>?_;have c:∀ a<64,∀ b<64,∀ l<6,((a - (a&&&b)).testBit l=true↔a.testBit l=true∧b.testBit l=false):=by decide +kernel
 exact c a ha b hb l hl
theorem stand_bad {s:Sys}    (h:zbx T n (PR s p A v)):Bad s p A v↔∃ i,i<n∧T.getD i 0≠0∧zcC p i=false:=by
 constructor
 ·rintro ⟨q,i,a,b⟩;have hb:=(h.2.2 i q).2 a;refine⟨i,by rw [← h.1];exact zht hb,fun e=>?_,b⟩;unfold zdK at hb;rw [e] at hb;simp at hb
 ·rintro ⟨i,d,a,b⟩;obtain⟨q,c⟩:=Nat.exists_testBit_of_ne_zero a;exact⟨q,i,(h.2.2 i q).1 c,b⟩
theorem zhV (hn:1<=n):zbx ((eH n 0).set 0 1) n (fun q i=>q=0∧i=0):=by
 refine⟨sM,fun x hx=>?_,fun i q=>?_⟩
 ·rcases fV hx with hx|rfl
  ·rw [iX] at hx;omega
  ·omega
 ·unfold zdK;rw [dI]
  by_cases h:i=0
  ·subst h;rw [fI (by rw [List.length_replicate];omega),fW];constructor
   ·intro h;exact⟨by cases q with|zero=>rfl|succ q=>simp [Nat.testBit_succ] at h,rfl⟩
   ·rintro ⟨rfl,-⟩;rfl
  ·rw [gF oM];constructor
   ·intro h;cases a:(eH n 0)[i]? with
    |none=>rw [a] at h;simp at h
    |some x =>
     have:=dC a;rw [iX] at this;rw [a,this.2] at h;simp at h
   ·rintro ⟨_,a⟩;exact absurd a h
def MvP (s:Sys) (p:Aut) (l:Nat) (T:List Nat) (k:Nat) (U:List Nat):Prop:=
 U.length=12∧(∀ x∈U,x<65536)∧∀ j q',zdK U j q'↔∃ i q,i<k∧zdK T i q∧q'∈cho s q l∧j=aGo p i l
def goS (s:Sys) (l x:Nat):Nat:=if s.al.toNat.testBit l=true then zbL s.edges x (l:Int) else x
section
variable {s:Sys} {p:Aut} {l k n:Nat} {T U:List Nat} {B:Nat->Nat->Prop}
theorem goS_bit (hs:Sml s) (x q':Nat):(goS s l x).testBit q'=true↔∃ q,x.testBit q=true∧q'∈cho s q l:=by
 unfold goS
 by_cases hb:s.al.toNat.testBit l=true
 ·rw [if_pos hb];exact zhn hs hb x q'
 ·rw [if_neg hb];constructor
  ·intro h;refine⟨q',h,?_⟩;unfold cho;rw [if_neg hb];simp
  ·rintro ⟨q,b,a⟩;unfold cho at a;rw [if_neg hb] at a;obtain rfl:q'=q:=by simpa using a
   exact b
theorem goS_lt (hs:Sml s) (hx:x<65536):goS s l x<65536:=by
 unfold goS;split
 ·exact zgB hs _ _
 ·exact hx
theorem zero_bit (n i q:Nat):¬ zdK (eH n 0) i q:=by
 unfold zdK;rw [dI];cases h:(eH n 0)[i]? with
 |none=>simp
 |some x =>
  have:=dC h;rw [iX] at this;simp [this.2]
theorem MvP.zero:MvP s p l T 0 (eH 12 0):=by
 refine⟨sM,fun x hx=>by rw [iX] at hx;omega,fun j q'=>⟨fun h=>absurd h (zero_bit _ _ _),?_⟩⟩;rintro ⟨i,q,h,-⟩;omega
theorem MvP.skip (h:MvP s p l T k U)(h0:T.getD k 0=0):MvP s p l T (k+1) U:=by
 refine⟨h.1,h.2.1,fun j q'=>⟨fun hb=>?_,?_⟩⟩
 ·obtain⟨i,q,b,a⟩:=(h.2.2 j q').1 hb;exact⟨i,q,oM,a⟩
 ·rintro ⟨i,q,b,a,c⟩;rcases eU (fJ b) with d|rfl
  ·exact (h.2.2 j q').2 ⟨i,q,d,a,c⟩
  ·unfold zdK at a;rw [h0] at a;simp at a
theorem MvP.step (h:MvP s p l T k U)(hs:Sml s)(hT:∀ x∈T,x<65536)(hj:aGo p k l<12):MvP s p l T (k+1) (U.set (aGo p k l) (U.getD (aGo p k l) 0|||goS s l (T.getD k 0))):=by
 have c:aGo p k l<U.length:=by rw [h.1];exact hj
 refine⟨by rw [fX];exact h.1,fun x hx=>?_,fun j q'=>?_⟩
 ·rcases fV hx with hx|rfl
  ·exact h.2.1 x hx
  ·exact eV (n:=16) (zbT h.2.1 _) (goS_lt hs (zbT hT _))
 ·rw [zcT c,h.2.2 j q',goS_bit hs];constructor
  ·rintro (⟨i,q,b,a⟩|⟨rfl,q,b,a⟩)
   ·exact⟨i,q,oM,a⟩
   ·exact⟨k,q,oM,b,a,rfl⟩
  ·rintro ⟨i,q,b,a,d,f⟩;rcases eU (fJ b) with g|rfl
   ·exact .inl ⟨i,q,g,a,d,f⟩
   ·exact .inr ⟨f,q,a,d⟩
theorem MvP.fin (h:MvP s p l T 12 U)(hT:zbx T 12 B):zbx U 12 (mvB s p l B):=by
 refine⟨h.1,h.2.1,fun j q'=>?_⟩;rw [h.2.2 j q'];constructor
 ·rintro ⟨i,q,-,a,b,c⟩;exact⟨q,i,(hT.2.2 i q).1 a,b,c⟩
 ·rintro ⟨q,i,a,b,c⟩;have hb:=(hT.2.2 i q).2 a;exact⟨i,q,by rw [← hT.1];exact zht hb,hb,b,c⟩
def Has (M V:List Nat) (k:Nat):Prop:=∀ i q,i<k->zdK V i q->zdK M i q
theorem Has.zero (M V:List Nat):Has M V 0:=fun i q h=>oM
theorem Has.all (h:Has M V 12)(hV:V.length=12) (i q:Nat)(hb:zdK V i q):zdK M i q:=h i q (by rw [← hV];exact zht hb) hb
theorem Has.set (h:Has M V n) (hj:j<M.length):Has (M.set j (M.getD j 0|||x)) V n:=fun i q hi hb=>(zcT hj _ _ _).2 (.inl (h i q hi hb))
theorem Has.step (h:Has M V k)(hk:k<M.length):Has (M.set k (M.getD k 0|||V.getD k 0)) V (k+1):=fun i q hi hb=>by
 rw [zcT hk]
 rcases eU (fJ hi) with h4|rfl
 ·exact .inl (h i q h4 hb)
 ·exact .inr ⟨rfl,hb⟩
variable {A:Nat}
theorem ClI.join (h:ClI s p A B 12 M)(hT:ClI s p A B 12 T)(hV:MvP s p l T 12 V)(hl:hidL s A l)(hk:k<12):ClI s p A B 12 (M.set k (M.getD k 0|||V.getD k 0)):=by
 have a:k<M.length:=by rw [h.len];exact hk
 refine⟨by rw [fX];exact h.len,fun x hx=>?_,fun q i hb=>(zcT a _ _ _).2 (.inl (h.base q i hb)),fun i q hb=>?_⟩
 ·rcases fV hx with hx|rfl
  ·exact h.lt x hx
  ·exact eV (n:=16) (zbT h.lt _) (zbT hV.2.1 _)
 ·rcases (zcT a _ _ _).1 hb with hb|⟨rfl,hb⟩
  ·exact h.sub i q hb
  ·obtain⟨d,f,-,b,c,rfl⟩:=(hV.2.2 i q).1 hb;exact .hid (hT.sub d f b) hl c
theorem ClI.stop (hT:ClI s p A B 12 T)(h:∀ l,hidL s A l->∃ V,MvP s p l T 12 V∧Has T V 12):zbx T 12 (Cl s p A B):=
 hT.fin fun i l hi hl q hq q' hq'=>by
  obtain⟨V,hV,hh⟩:=h l hl
  exact hh.all hV.1 _ _ ((hV.2.2 _ _).2 ⟨i,q,hi,hq,hq',rfl⟩)
end
theorem bits_le (h:∀ q,a.testBit q=true->b.testBit q=true):a<=b:=by
 have:a|||b=b:=gH fun q=>by
  rw [iY];cases ha:a.testBit q
  ·simp
  ·rw [h q ha];simp
 rw [← this];exact Nat.left_le_or
theorem room_le:∀ {T M:List Nat},T.length=M.length->(∀ x∈M,x<65536)->(∀ i,T.getD i 0<=M.getD i 0)->room M<=room T∧(T≠M->room M<room T)
 |[],[],_,_,_=>⟨dD _,fun h=>absurd rfl h⟩
 |[],_ :: _,h,_,_=>by simp at h
 |_ :: _,[],h,_,_=>by simp at h
 |a :: r,b :: t,h,hM,hle=>by
  have h0:a<=b:=by simpa using hle 0
  have hb:=hM b sM;obtain⟨d,c⟩:=room_le (T:=r) (M:=t) (by simpa using h) (fun x hx=>hM x (by simp [hx])) (fun i=>by simpa using hle (i+1));refine⟨by simp only [room];omega,fun hne=>?_⟩;simp only [room]
  by_cases e:a=b
  ·subst e;have:=c (fun e2=>hne (by rw [e2]));omega
  ·omega
theorem room_grow (h1:T.length=M.length)(hM:∀ x∈M,x<65536)(h:∀ i q,zdK T i q->zdK M i q)(hne:T≠M):room M<room T:=
 (room_le h1 hM (fun i=>bits_le (fun q hq=>h i q hq))).2 hne
def bq (T:List Nat):Nat->Nat->Prop:=fun q i=>zdK T i q
theorem zbx.eq {B:Nat->Nat->Prop}(h:zbx T n B):bq T=B:=funext fun q=>funext fun i=>propext (h.2.2 i q)
structure WS (p:Aut) (T:List Nat):Prop where
 len:T.length=12
 lt:∀ x∈T,x<65536
 row:∀ i q,zdK T i q->i<p.next.length
theorem WS.stand (h:WS p T):zbx T 12 (bq T):=⟨h.len,h.lt,fun _ _=>Iff.rfl⟩
theorem WS.idx (h:WS p T) (h0:T.getD i 0≠0):i<p.next.length:=by
 obtain⟨q,a⟩:=Nat.exists_testBit_of_ne_zero h0;exact h.row i q a
def zgp (p:Aut) (T:List Nat):Nat->Bool
 |0=>false
 |k+1=>zgp p T k || (T.getD k 0 != 0&&!zcC p k)
def badS (p:Aut) (T:List Nat):Bool:=zgp p T 12
theorem badSN_iff (p:Aut) (T:List Nat):∀ k,zgp p T k=true↔∃ i,i<k∧T.getD i 0≠0∧zcC p i=false
 |0=>⟨fun h=>(by cases h),fun ⟨i,h,_⟩=>oM⟩
 |k+1=>by
  unfold zgp
  rw [gV,badSN_iff p T k]
  constructor
  ·rintro (⟨i,h1,h2⟩|h)
   ·exact⟨i,oM,h2⟩
   ·refine⟨k,oM,?_⟩
    simpa using h
  ·rintro ⟨i,h1,h2,h3⟩
   rcases eU (fJ h1) with h4|rfl
   ·exact .inl ⟨i,h4,h2,h3⟩
   ·exact .inr (by simp only [h3,Bool.not_false,Bool.and_true];simpa using h2)
theorem ziY {s:Sys}    (h:zbx T 12 (PR s p A v)):badS p T=true↔Bad s p A v:=by
 rw [stand_bad h];exact badSN_iff p T 12
theorem cl_row {s:Sys}   {B:Nat->Nat->Prop}(hp:zj p=true)(hB:∀ q i,B q i->i<p.next.length) (h:Cl s p A B q i):i<p.next.length:=by
 induction h with
 |base h=>exact hB _ _ h
 |hid _ hl _ ih=>exact zdH hp ih hl.1
def Lead (s:Sys) (p:Aut) (A l:Nat) (T U:List Nat):Prop:=zbx U 12 (Cl s p A (mvB s p l (bq T)))
theorem Lead.ws {s:Sys}   (h:Lead s p A l T U)(hp:zj p=true)(hl:l<6)(hT:WS p T):WS p U:=
 ⟨h.1,h.2.1,fun i q hb=>cl_row hp (fun q i ⟨_,i0,h1,_,h3⟩=>by rw [h3];exact zdH hp (hT.row _ _ h1) hl) ((h.2.2 i q).1 hb)⟩
theorem Lead.pr {s:Sys}    (h:Lead s p A l T U)(hT:zbx T 12 (PR s p A v)):zbx U 12 (PR s p A (v++[l])):=by
 unfold Lead at h;rw [hT.eq,← PR_snoc] at h;exact h
theorem start_ws {s:Sys}   (h:zbx U 12 (PR s p A []))(hp:zj p=true)(h0:0<p.next.length):WS p U:=
 ⟨h.1,h.2.1,fun i q hb=>cl_row hp (fun q i ⟨_,h3⟩=>by rw [h3];exact h0) ((h.2.2 i q).1 hb)⟩
structure SfI (s:Sys) (p:Aut) (A:Nat) (Ts:List (List Nat)) (nx:Nat->Nat->Int):Prop where
 ws:∀ T∈Ts,WS p T
 start:∃ T,Ts[0]?=some T∧zbx T 12 (PR s p A [])
 nx:∀ k l,k<Ts.length->l<6->nx k l = -1∨∃ (j:Nat) (T U:List Nat),nx k l=(j:Int)∧Ts[k]?=some T∧Ts[j]?=some U∧Lead s p A l T U
section
variable {s:Sys} {p:Aut} {A:Nat} {Ts:List (List Nat)} {nx:Nat->Nat->Int}
theorem SfI.add (h:SfI s p A Ts nx) (hU:WS p U):SfI s p A (Ts++[U]) (fun k l=>if k=Ts.length then -1 else nx k l):=by
 obtain⟨T,d,g⟩:=h.start;refine⟨fun V a=>?_,⟨T,by rw [eC (List.getElem?_eq_some_iff.1 d).1];exact d,g⟩,fun k l hk hl=>?_⟩
 ·rcases List.mem_append.1 a with a|a
  ·exact h.ws V a
  ·obtain rfl:V=U:=by simpa using a
   exact hU
 ·by_cases e:k=Ts.length
  ·exact .inl (if_pos e)
  ·have b:k<Ts.length:=by simp at hk;omega
   simp only [if_neg e];rcases h.nx k l b hl with c|⟨j,T,U,c,i,f,m⟩
   ·exact .inl c
   ·exact .inr ⟨j,T,U,c,by rw [eC b];exact i,by rw [eC (List.getElem?_eq_some_iff.1 f).1];exact f,m⟩
theorem SfI.set (h:SfI s p A Ts nx)  (hT:Ts[k]?=some T)(hU:Ts[j]?=some U)(hl:Lead s p A l T U):SfI s p A Ts (fun k' l'=>if k'=k∧l'=l then (j:Int) else nx k' l'):=by
 refine⟨h.ws,h.start,fun k' l' hk' hl'=>?_⟩
 by_cases e:k'=k∧l'=l
 ·obtain⟨rfl,rfl⟩:=e;exact .inr ⟨j,T,U,if_pos ⟨rfl,rfl⟩,hT,hU,hl⟩
 ·simp only [if_neg e];exact h.nx k' l' hk' hl'
end
theorem zjp (l:List Int):∀ u∈ints l,u.oneCell'=true:=by
 intro u hu;obtain⟨x,_,rfl⟩:=List.mem_map.1 hu;rfl
theorem zfH (l:List Bool):∀ u∈zap l,u.oneCell'=true:=by
 intro u hu;obtain⟨x,_,rfl⟩:=List.mem_map.1 hu;rfl
theorem zfO {w1:World}   (hg:(w.alloc (.cells cs t)).grownBy w1 (Value.slice (some w.heap.size) n c).ownBlock):Ext w w1:=
 ((dB w).alloc _).grown hg (fun k hk=>by
  have hk':w.heap.size=k:=by simpa [Value.ownBlock] using hk
  omega)
theorem clone_int {A:Option Addr}  {l:List Int} (h:Reads w lo hi 1 A n (ints l))(hn:n<=1048576) :
  Calls Tryz.prog 177 #[.slice A n c] w fun e w'=>∃ v',e=.returned v'∧w'.ownsRow w.heap.size 3 1 v' n (ints l)∧Ext w w':=by
 cases A with
 |none =>
  obtain rfl:n=0:=by
   rcases iI n with b|b
   ·exact b
   ·obtain⟨_,d,_⟩:=h.2.2 b;cases d
  have f:=h.length;obtain rfl:l=[]:=eD (by rw [zdd] at f;omega);clear h;have g:=fun (w:World) (a:Option Addr) (n c n' c':Nat)=>Lib.run_eql_slice_nil (P:=Tryz.prog) w 128 _ a n c n' c' Tryz.underlying128
  go_enter Tryz.func177,Tryz.ntmps177
  go_wp2;go_ret;exact⟨_,rfl,World.ownsRow_nil _ _ _ _,dB _⟩
 |some ad =>
  have H:=za (h.ext ((dB w).alloc (.cells #[] 3)));clear h;have g:=fun (w:World) (a:Option Addr) (n c n' c':Nat)=>Lib.run_eql_slice_nil (P:=Tryz.prog) w 128 _ a n c n' c' Tryz.underlying128
  go_enter Tryz.func177,Tryz.ntmps177
  go_wp2_with (at_builtin;refine zdk _ rfl _ _ 128 rfl w.heap.size 3 _ 1 8 Tryz.underlying128 zal rfl dM _ 0 [] rfl (World.ownsRow_made w #[] 0 (dD _) (dG _) rfl) _ _ (some ad) n c (ints l) rfl H.out (zjp l) lM oM sM ?_;intro v' w1 zjQ hg hat)
  have hx:=zfO hg;rw [eJ,eY] at zjQ;go_ret;exact⟨_,rfl,zjQ,hx⟩
theorem ziA {A:Option Addr}  {l:List Bool} (h:Reads w lo hi 1 A n (zap l))(hn:n<=1048576) :
  Calls Tryz.prog 176 #[.slice A n c] w fun e w'=>∃ v',e=.returned v'∧w'.ownsRow w.heap.size 4 1 v' n (zap l)∧Ext w w':=by
 cases A with
 |none =>
  obtain rfl:n=0:=by
   rcases iI n with b|b
   ·exact b
   ·obtain⟨_,d,_⟩:=h.2.2 b;cases d
  have f:=h.length;obtain rfl:l=[]:=eD (by rw [zcc] at f;omega);clear h;have g:=fun (w:World) (a:Option Addr) (n c n' c':Nat)=>Lib.run_eql_slice_nil (P:=Tryz.prog) w 26 _ a n c n' c' Tryz.underlying26
  go_enter Tryz.func176,Tryz.ntmps176
  go_wp2;go_ret;exact⟨_,rfl,World.ownsRow_nil _ _ _ _,dB _⟩
 |some ad =>
  have H:=za (h.ext ((dB w).alloc (.cells #[] 4)));clear h;have g:=fun (w:World) (a:Option Addr) (n c n' c':Nat)=>Lib.run_eql_slice_nil (P:=Tryz.prog) w 26 _ a n c n' c' Tryz.underlying26
  go_enter Tryz.func176,Tryz.ntmps176
  go_wp2_with (at_builtin;refine zdk _ rfl _ _ 26 rfl w.heap.size 4 _ 1 1 Tryz.underlying26 zbg rfl dM _ 0 [] rfl (World.ownsRow_made w #[] 0 (dD _) (dG _) rfl) _ _ (some ad) n c (zap l) rfl H.out (zfH l) lM oM sM ?_;intro v' w1 zjQ hg hat)
  have hx:=zfO hg;rw [eJ,eY] at zjQ;go_ret;exact⟨_,rfl,zjQ,hx⟩
theorem zZ (W:World) (Z:Nat) (u0 u1 u2:Value):Frm (fun k=>k=Z) W (((W.setCell Z u0).setCell ⟨Z,1,none⟩ u1).setCell ⟨Z,2,none⟩ u2):=
 ((dF W Z 0 u0).trans (dF _ Z 1 u1)).trans (dF _ Z 2 u2)
theorem zag {Z:Nat}  (h:Blk w Z t cs)(hc:cs.size=3) (u0 u1 u2:Value):Blk (((w.setCell Z u0).setCell ⟨Z,1,none⟩ u1).setCell ⟨Z,2,none⟩ u2) Z t #[u0,u1,u2]:=by
 obtain⟨l⟩:=cs
 match l,hc with
 |[a,b,c],_=>simpa using ((h.ab 0 u0).ab 1 u1).ab 2 u2
theorem zr {e:TypeId} {size G:Nat} {v:Value} {xs:List Value} (h:w.ownsRow base e size v n xs)(hB:Blk w G t cs)(hne:e≠t) (hv:v.ownBlock=some b):b≠G:=by
 rintro rfl;rcases h.2 with ⟨rfl,_⟩|⟨g,a,c,rfl,_,hh,_⟩
 ·simp [Value.ownBlock] at hv
 ·have d:g=b:=by simpa [Value.ownBlock] using hv
  subst d;unfold Blk at hB;rw [hh] at hB;injection hB with hB
  injection hB with _ ht
  exact absurd ht hne
structure Gra (w0 W:World) (G:Nat) (al:Int) (v:Value) (ls:List (List Int)) (vA:Value) (acc:List Bool):Prop where
 blk:Blk W G 31 #[al,v,vA]
 own:zfF W w0.heap.size v ls
 acc:W.ownsRow w0.heap.size 4 1 vA acc.length (zap acc)
 ext:Ext w0 W
 hG:w0.heap.size<=G
section
variable {w0 W W':World} {G:Nat} {al:Int} {v vA:Value} {ls:List (List Int)} {acc:List Bool}
theorem Gra.av (h:Gra w0 W G al v ls vA acc)(hb:Ext W W'):Gra w0 W' G al v ls vA acc:=⟨h.blk.ext hb,h.own.ext hb,zh h.acc hb,h.ext.trans hb,h.hG⟩
theorem Gra.push {W1:World} {rows:List Value} {row:Value} {l:List Int} {g:Nat}(h:Gra w0 W G al v ls vA acc)(hrows:zB W w0.heap.size rows ls)(hv:W.ownsRow w0.heap.size 128 1 v ls.length rows)
  (hx:Ext W W1) (hrow:W1.ownsRow W.heap.size 3 1 row l.length (ints l))
  (zjQ:W'.ownsRow w0.heap.size 128 1 (.slice (some g) (ls.length+1) cap) (ls.length+1) (rows++[row]))
  (hg:W1.grownBy W' v.ownBlock) (hat:v.ownBlock=some g∨g=W1.heap.size+1) :
  Hid (W'.cell? ⟨G,1,none⟩=some v)∧W'.frozen? ⟨G,1,none⟩=false∧Gra w0 (W'.setCell ⟨G,1,none⟩ (.slice (some g) (ls.length+1) cap)) G al (.slice (some g) (ls.length+1) cap) (ls++[l]) vA acc:=by
 have a:=h.blk.ext hx;have d:=zh hv hx;have f:Blk W' G 31 #[.int .i64 al,v,vA]:=(hg.block G a.lt (fun e=>zr d a dM e.symm rfl)).trans a;have u:g≠G:=by
  rcases hat with t|t
  ·exact zr d a dM t
  ·have:=a.lt;omega
 have s:Ext w0 W':=(h.ext.trans hx).grown hg (fun k hk=>(d.lt k hk).1);have m:=hrows.snoc hx (h.ext.size) hrow;have j:Frm (fun k=>v.ownBlock=some k) W1 W':=Frm.ae hg;have n:zB W' w0.heap.size (rows++[row]) (ls++[l]):=m.frm j (fun i r b hr hb hS=>by
  obtain⟨x,_,q⟩:=m.row hr;exact zaB q d dM hb hS)
 have o:W'.ownsRow w0.heap.size 4 1 vA acc.length (zap acc):=zg (zh h.acc hx) j (fun b hb hS=>zaB (zh h.acc hx) d dM hb hS);have c:=dF W' G 1 (.slice (some g) (ls.length+1) cap);refine⟨f.cell 1,f.frozen 1,⟨by simpa using f.ab 1 _,⟨rows++[row],?_,?_⟩,?_,s.setCell (p:=⟨G,1,none⟩) h.hG _,h.hG⟩⟩
 ·rw [eE,eO];exact zg zjQ c (fun b hv hS=>by
   have:g=b:=by simpa [Value.ownBlock] using hv
   omega)
 ·refine n.frm c (fun i r b hr hb hS=>?_);obtain⟨x,_,q⟩:=n.row hr;exact zr q f dM hb hS
 ·exact zg o c (fun b hb hS=>zr o f dM hb hS)
end
theorem zfQ {A:Option Addr}  {A':Option Addr} {n' c':Nat} {a:Aut} (h:zF w lo hi A n A' n' a)(hs:a.size<=1048576) :
  Calls Tryz.prog 98 #[.agg #[a.al,.slice A n c,.slice A' n' c']] w (RetAut w a):=by
 have S:n<=1048576:=by have:=h.n1;unfold Aut.size at hs;omega
 have T:n'<=1048576:=by have:=h.n2;unfold Aut.size at hs;omega
 have o:∀ (k:Nat) (l:List Int),a.next[k]?=some l->l.length<=1048576:=fun k l M=>by
  have S:=zgi M;have T:=zhW a.next (k+1);unfold Aut.size at hs;omega
 have F:=za o;have hL:=za h.n1;have I:=za h.n2;have HS:=za (fun W (hW:Ext w W)=>h.1.ext hW);have HA:=za (fun W (hW:Ext w W)=>h.2.2.ext hW);have ai:=h.1.len;clear o h hs
 go_enter Tryz.func98,Tryz.ntmps98
 go_upto_region 1 with fail
 generalize U0:(w.alloc _).alloc _=w2 at *;obtain⟨hw2,b1,bz⟩:=Ext.x2_ U0;have ak:w.heap.size+2=w2.heap.size:=by rw [← U0];simp
 clear U0
 go_cut [3] (fun v wx=>∃ (G:Nat) (vA:Value),v=.pointer (some G)∧Gra w2 wx G a.al (.slice none 0 0) [] vA a.acc)
 case first =>
  have c1:=fun W (hW:Ext w2 W)=>(b1.ext hW).cell;have r:=dB w2;refine uR (fun X=>Ext w2 X) [7] (zv.app [0,1,2,3] (zv.two 4 (zv.of [5,6,7]) 6 (zv.of [4,5,7]))) ?_;refine uQ ?_;have g:Ext w2 w2.drew:=r.drew;generalize w2.drew=wd at *;refine zn (fun K hK=>?_) (fun K hK=>?_)
  ·go_simp;refine (ziA (HA.out _ (hw2.trans g)) T).mono ?_;rintro e D ⟨af,rfl,j,t⟩;obtain⟨E,H,rfl⟩:=zi j;have m:=g.trans t;refine hK.out _ _ m ?_;refine pT ?_;refine uQ ?_;refine ze fun K hK=>?_;go_simp;have s:=(dB D).alloc (.cells #[(0:Int),(),()] 31);have U:=m.size;have f:=zq (zh j s) g.size;replace m:=m.trans s;refine hK.out _ _ m ?_;generalize U0:D.alloc _=w3 at *;have hb:=Ext.bl_ U0;clear U0;generalize D.heap.size=G at *;refine pT ?_;refine uQ ?_;have R:=hb.cell;have fG:=hb.frozen;refine zb fun K hK=>?_;go_simp;refine hK.out _ _ ?_;refine zf ?_;have zjT:Gra w2 (((w3.setCell G a.al).setCell ⟨G,1,none⟩ ()).setCell ⟨G,2,none⟩ (.slice E n' H)) G a.al (.slice none 0 0) [] (.slice E n' H) a.acc:=⟨zag hb rfl _ _ _,⟨[],World.ownsRow_nil _ _ _ _,zB.nil _ _⟩,by
    rw [← I.out];exact zg f (zZ w3 G _ _ _) (fun b q hS=>zr f hb dM q hS),m.frm (zZ w3 G _ _ _) (fun k Z e=>oM),U⟩
   go_wp2_with fail
   go_meet;exact⟨G,_,rfl,zjT⟩
  ·go_simp;have s:=(dB wd).alloc (.cells #[(0:Int),(),()] 31);have U:=g.size;replace g:=g.trans s;refine hK.out _ _ g ?_;generalize U0:wd.alloc _=w3 at *;have hb:=Ext.bl_ U0;clear U0;generalize wd.heap.size=G at *;refine pT ?_;refine ze fun K hK=>?_;go_simp;refine (ziA (HA.out _ (hw2.trans g)) T).mono ?_;rintro e D ⟨af,rfl,j,t⟩;obtain⟨E,H,rfl⟩:=zi j;have f:=zq j g.size;replace hb:=hb.ext t;replace g:=g.trans t;refine hK.out _ _ g ?_;refine pT ?_;refine uQ ?_;have R:=hb.cell;have fG:=hb.frozen;refine zb fun K hK=>?_;go_simp;refine hK.out _ _ ?_;refine zf ?_;have zjT:Gra w2 (((D.setCell G a.al).setCell ⟨G,1,none⟩ ()).setCell ⟨G,2,none⟩ (.slice E n' H)) G a.al (.slice none 0 0) [] (.slice E n' H) a.acc:=⟨zag hb rfl _ _ _,⟨[],World.ownsRow_nil _ _ _ _,zB.nil _ _⟩,by
    rw [← I.out];exact zg f (zZ D G _ _ _) (fun b q hS=>zr f hb dM q hS),g.frm (zZ D G _ _ _) (fun k Z e=>oM),U⟩
   go_wp2_with fail
   go_meet;exact⟨G,_,rfl,zjT⟩
 case rest =>
  obtain⟨G,vA,rfl,d⟩:=hcut;have k1:=(b1.ext d.ext).cell;go_wp2_with fail
  go_loopw [5,15] (fun _ i wr=>∃ (k:Nat) (v:Value),k<=n∧i=.int .i64 k∧Gra w2 wr G a.al v (a.next.take k) vA a.acc) (fun _ i _=>n - (intOf i).toNat)
  case atStart=>exact⟨0,_,dG _,rfl,by simpa using d⟩
  case round =>
   clear d k1;obtain⟨k,v,Z,rfl,d⟩:=hrel
   by_cases hlt:k<n
   ·obtain⟨ad,Ak,ck,l,rfl,_,_,M,Y,J⟩:=(HS.out wr (hw2.trans d.ext)).row hlt;have aa:=F.out k l M.out;have Q:=za (show a.next.take (k+1)=a.next.take k++[l] by rw [eA,M.out];rfl);have L:=za (show (a.next.take k).length=k by rw [e8];have:=hL.out;omega);obtain⟨u,q,C⟩:=d.own;go_upto_region 5 with fail
    have R:=fun W (hW:Ext wr W)=>(d.blk.ext hW).cell;have r:=dB wr;have O:=za (fun W (hW:Ext wr W)=>J.ext hW);clear Y J;refine uR (fun X=>Ext wr X) [5,7] (zv.of [0,1,2,3,4,5,6,7]) ?_;refine uQ ?_;refine ze fun K hK=>?_;go_simp;refine (clone_int (O.out _ r.drew) aa).mono ?_;rintro e w3 ⟨row,rfl,o,hx3⟩;obtain⟨BR,dR,rfl⟩:=zi o;have p:=r.drew.trans hx3;refine hK.out _ _ p ?_;refine pT ?_;refine uQ ?_;refine ze fun K hK=>?_;go_simp;refine hK.out _ _ (p.alloc _) ?_;refine pT ?_;refine zb fun K hK=>?_;refine zaM w2 w3 _ _ _ rfl 128 _ 1 24 Tryz.underlying25 zcJ rfl dM v (a.next.take k).length u _ _ rfl rfl (d.ext.trans p).size (zh q p) rfl (zbc _ _ _) (by unfold maxLen;have:=L.out;omega) (oH L.out) ?_;intro g5 cap5 w5 zkc hg5 hat5 hlt5;refine hK.out _ _ ?_;refine pT ?_;refine uQ ?_;obtain⟨p1,p2,p3⟩:=d.push C q p o (W':=w5) zkc hg5 hat5;have av:=p1.out;refine zb fun K hK=>?_;go_simp;refine hK.out _ _ ?_;refine zf ?_;go_wp2_with fail
    go_roundw
    case rel=>exact⟨k+1,_,oM,gM,by rw [Q.out];first|exact p3|simpa using p3⟩
    case measure=>simp [intOf];omega
   ·obtain rfl:n=k:=oM;obtain⟨A5,c5,rfl⟩:∃ A5 c5,v=.slice A5 n c5:=by
     obtain⟨u,q,_⟩:=d.own;rw [dU (oH hL.out),← hL.out] at q;exact zi q
    obtain⟨x,y,rfl⟩:=zi d.acc;have R:=d.blk.cell;have z:=bz.ext d.ext;have cZ:=z.cell;have fZ:=z.frozen;have B:=zZ wr (w.heap.size+1) (.int .i64 a.al) (.slice A5 n c5) (.slice x a.acc.length y);have V:=zag z rfl (.int .i64 a.al) (.slice A5 n c5) (.slice x a.acc.length y);have ab:=(hw2.trans d.ext).frm B (fun k Z e=>oM);have zjT:=za (show RetAut w a (.returned (.agg #[a.al,.slice A5 n c5,.slice x a.acc.length y])) (((wr.setCell ⟨w.heap.size+1,0,none⟩ a.al).setCell ⟨w.heap.size+1,1,none⟩ (.slice A5 n c5)).setCell ⟨w.heap.size+1,2,none⟩ (.slice x a.acc.length y)) from by
     refine⟨A5,n,c5,x,a.acc.length,y,rfl,⟨?_,hL.out,?_,rfl⟩,ab⟩
     ·have ho:=d.own;rw [dU (oH hL.out)] at ho;exact (ho.keep B (fun b S e=>oM)).less oM
     ·exact zq (zaP d.acc B (fun b S e=>oM)) oM)
    go_wp2_with fail
    generalize ((wr.setCell ⟨w.heap.size+1,0,none⟩ a.al).setCell ⟨w.heap.size+1,1,none⟩ (.slice A5 n c5)).setCell ⟨w.heap.size+1,2,none⟩ (.slice x a.acc.length y)=wf at *;have cf:=V.cell;exact bodyPost_ret (v:=.agg #[a.al,.slice A5 n c5,.slice x a.acc.length y]) (by simp [results,Tryz.results98,go_sem,cf]) rfl zjT.out
end Go.Proofs.YtcfchopfijalpaaGreatDoor
