/- ChainFault o -/
import Derived.Test.YtckbjnndaaoddaaGreatDoorH06
set_option maxHeartbeats 4000000
set_option maxRecDepth 100000
namespace Go.Proofs.YtckbjnndaaoddaaGreatDoor
open Go Go.RowKit
open Bool renaming and_eq_true->dH,eq_false_iff->fI,eq_iff_iff->gX,or_eq_true->gV,true_and->jE
open Ext renaming refl->dB,x1_->gL
open List renaming all_eq_true->eW,eq_nil_of_length_eq_zero->eD,foldl_cons->iQ,getD_eq_getElem?_getD->dI,getElem?_append_left->eC,getElem?_eq_getElem->dE,getElem?_map->eF,getElem?_of_mem->eQ,getElem?_set_ne->gF,getElem?_set_self->fJ,length_append->eE,length_set->fX,length_singleton->eP,map_cons->gJ,mem_cons_of_mem->eT,mem_cons_self->iG,mem_of_getElem?->dC,mem_of_mem_take->gG,mem_or_eq_of_mem_set->fU,mem_replicate->iY,replicate->eH,take_add_one->eA,take_of_length_le->dU
open Nat renaming div_eq_of_lt->jK,eq_of_testBit_eq->gH,le_of_lt_succ->fK,le_refl->dD,le_trans->eB,lt_of_lt_of_le->eN,lt_or_eq_of_le->eU,mod_eq_of_lt->iN,mod_mul_right_div_self->jV,mul_comm->fY,or_lt_two_pow->eV,pow_le_pow_right->eR,testBit_and->gW,testBit_or->iZ,zero_le->dG
open Option renaming getD_some->fW,toList_some->eS
variable {A a b i j k l n q x:Nat} {M T U V ls v:List Nat} {es:List Edg} {p:Aut} {s:ByteArray} {ss:List Sys} {w:World}
theorem zdd {x y z:Sys} (h:three [x,y,z] p=true):∃ c:Nat,zas [x,y,z] p=(c:Int)∧c<=63:=by
 have f:=h;simp only [three,dH] at f;obtain⟨_,g⟩:=zaf f.2.1;have o:=zF (g x sM);have q:=zF (g y sM);have r:=zF (g z sM);have l:=(zl f.2.2).1;unfold zas;rw [h,if_pos rfl];obtain⟨a,i⟩:∃ a:Nat,x.al=a:=⟨x.al.toNat,oM⟩;obtain⟨b,hb⟩:∃ a:Nat,y.al=a:=⟨y.al.toNat,oM⟩;obtain⟨c,j⟩:∃ a:Nat,z.al=a:=⟨z.al.toNat,oM⟩;obtain⟨d,k⟩:∃ a:Nat,p.al=a:=⟨p.al.toNat,oM⟩;dsimp only;rw [i,hb,j,k];have e1:=eV (n:=6) (x:=a) (y:=d) oM oM;have e2:=eV (n:=6) (x:=b) (y:=c) oM oM;rw [zbn tM tM,zbn tM tM,zcm tM tM];refine⟨_,rfl,?_⟩;have:=Nat.and_le_left (n:=a|||d) (m:=b|||c);omega
noncomputable def zbc (ss:List Sys) (p f g:Aut):Int:=
 if (three ss p&&(zj f&&zj g))=false then 1
 else if (decide (f.al=zas ss p)&&decide (g.al=zbJ ss p))=false then 2
 else match ss with
  |[x,y,z]=>if (zbd x f p&&zbd y g f)=false then 3 else if zaW [z] g=false then 4 else 0
  |_=>0
section
variable {lo hi c:Nat} {A:Option Addr} {ss:List Sys} {lo1 hi1 m1 d1 m1' d1':Nat} {B B':Option Addr} {p:Aut} {lo2 hi2 m2 d2 m2' d2':Nat} {C C':Option Addr} {f:Aut} {lo3 hi3 m3 d3 m3' d3':Nat} {D D':Option Addr} {g:Aut} {w:World}
theorem yH07a1 {P:Prop}(h:P:=by
 obtain⟨b,o,s,Bx,nx_,cx,rfl,_,_,hs,e0,e1,e2,hx⟩:=(HS.out w (Ext.refl _)).sys (k:=0) oM;obtain rfl:x=s:=by have:=hs.out;simpa using this
 obtain⟨By,ny,cy,f0,f1,f2,hy⟩:=(HS.out w (Ext.refl _)).aw (k:=1) (s:=y) rfl;obtain⟨Bz,nz,cz,g0,g1,g2,hz⟩:=(HS.out w (Ext.refl _)).aw (k:=2) (s:=z) rfl;refine⟨b,o,rfl,⟨Bx,By,Bz,nx_,ny,nz,cx,cy,cz,fun W hW=>⟨fun j=>?_,hx.ext hW,hy.ext hW,hz.ext hW⟩⟩⟩
 match j with
 |0=>exact Or.inl (hW.aa (by simpa using e0))
 |1=>exact Or.inl (hW.aa (by simpa using e1))
 |2=>exact Or.inl (hW.aa (by simpa using e2))
 |3=>exact Or.inl (hW.aa (by simpa using f0))
 |4=>exact Or.inl (hW.aa (by simpa [Nat.add_assoc] using f1))
 |5=>exact Or.inl (hW.aa (by simpa [Nat.add_assoc] using f2))
 |6=>exact Or.inl (hW.aa (by simpa using g0))
 |7=>exact Or.inl (hW.aa (by simpa [Nat.add_assoc] using g1))
 |8=>exact Or.inl (hW.aa (by simpa [Nat.add_assoc] using g2))
 |j+9=>exact Or.inr oM
 ):P:=h
theorem yH07a3 {P:Prop}(h:P:=by
 go_enter Tryz.func24,Tryz.ntmps24
 go_upto_region 1 with fail
 generalize (w.alloc _).alloc _=w1 at *;have c1:=b1.cell;go_wp2_with (first
  |(go_at_call 56;refine (HCL.out _ hw1).mono ?_;rw [hc1.out,hq2.out];rintro e w2 ⟨rfl,hx2⟩;have hw2:=hw1.trans hx2;have c22:=(b2.ext hx2).cell)
  |(go_at_call 79;with_reducible refine (HF.out _ hw2).mono ?_;rw [V1.out];rintro e w3 ⟨rfl,hx3⟩;have hw3:=hw2.trans hx3;have c32:=(b2.ext (hx2.trans hx3)).cell)
  |(go_at_call 79;with_reducible refine (HG.out _ hw3).mono ?_;rw [V2.out];rintro e w4 ⟨rfl,hx4⟩;have hw4:=hw3.trans hx4;have c42:=(b2.ext (hx2.trans (hx3.trans hx4))).cell))
 go_ret;exact⟨zH (by rw [hr.out]),hw4⟩
 ):P:=h
theorem yH07a4 {P:Prop}(h:P:=by
 refine uQ ?_;refine ze fun K hK=>?_;go_simp;refine (HK1.out _ (hw4.trans hww.drew)).mono (mQ fun w5 hy0=>?_);have hy:=hww.drew.trans hy0;refine hK.out _ _ hy ?_;refine pT ?_;refine uQ ?_;refine zb fun K hK=>?_;go_simp;refine (HK2.out _ (hw4.trans hy)).mono (mQ fun w6 hy1=>?_);have hyy:=hy.trans hy1;refine hK.out _ _ ?_;refine pT ?_;refine uQ ?_;refine zf ?_;go_wp2_with fail
 go_ret;exact⟨zH (by rw [hr.out];rfl),hw1.trans (hx14.trans hyy)⟩
 ):P:=h
theorem yH07a5 {P:Prop}(h:P:=by
 have hh:=(HX2.out W (hw4.trans hW)).1;refine⟨(hh 0).resolve_right oM,(hh 1).resolve_right oM,(hh 2).resolve_right oM,(hh 3).resolve_right oM,(hh 4).resolve_right oM,(hh 5).resolve_right oM,(hh 6).resolve_right oM,(hh 7).resolve_right oM,(hh 8).resolve_right oM⟩
 ):P:=h
theorem yH07a6 {P:Prop}(h:P:=by
 refine uQ ?_;refine zb fun K hK=>?_;go_simp;refine (HK3.out _ (hw4.trans (hyy0.trans hww.drew))).mono (mQ fun w7 hy2=>?_);have hyy2:=hyy0.trans (hww.drew.trans hy2);refine hK.out _ _ ?_;refine pT ?_;refine uQ ?_;refine zf ?_;go_wp2_with fail
 go_ret;exact⟨zH (by rw [hr.out];rfl),hw1.trans (hx14.trans hyy2)⟩
 ):P:=h
theorem yH07a8 {P:Prop}(h:P:=by
 refine uQ ?_;refine ze fun K hK=>?_;go_simp;refine (HK1.out _ (hw4.trans hww.drew)).mono (mQ fun w5 hy0=>?_);have hy:=hww.drew.trans hy0;refine hK.out _ _ hy ?_;refine pT ?_;refine uQ ?_;refine zf ?_;go_wp2_with fail
 go_ret;exact⟨zH (by rw [hr.out];rfl),hw1.trans (hx14.trans hy)⟩
 ):P:=h
theorem yH07a12 {P:Prop}(h:P:=by
 have hh:=(HX2.out W (hw4.trans (hyy0.trans hW))).1;exact⟨(hh 6).resolve_right oM,(hh 7).resolve_right oM,(hh 8).resolve_right oM⟩
 ):P:=h
theorem spec_ChainFault (h:zdE w lo hi A n ss)(hp:zD w lo1 hi1 B m1 B' m1' p)(hf:zD w lo2 hi2 C m2 C' m2' f)(hg:zD w lo3 hi3 D m3 D' m3' g) :
  Calls Tryz.prog 24 #[.slice A n c,.agg #[p.al,.slice B m1 d1,.slice B' m1' d1'],.agg #[f.al,.slice C m2 d2,.slice C' m2' d2',g.al,.slice D m3 d3,.slice D' m3' d3']] w fun e w'=>e=.returned (.int .i64 (zbc ss p f g))∧Ext w w':=by
 have HS:=za (fun W (hW:Ext w W)=>h.ext hW);have G:=za (fun W (hW:Ext w W)=>hp.ext hW);have m:=za (fun W (hW:Ext w W)=>hf.ext hW);have q:=za (fun W (hW:Ext w W)=>hg.ext hW);have HCL:=za (fun W (hW:Ext w W)=>zcE (c:=c) (d:=d1) (d':=d1') (h.ext hW) (hp.ext hW));have HF:=za (fun W (hW:Ext w W)=>zK _ _ _ _ d2 _ _ d2' _ _ (hf.ext hW));have HG:=za (fun W (hW:Ext w W)=>zK _ _ _ _ d3 _ _ d3' _ _ (hg.ext hW));have L:=za h.1;clear h hp hf hg;have hw1:Ext w ((w.alloc (.cells #[p.al,.slice B m1 d1,.slice B' m1' d1'] 27)).alloc (.cells #[f.al,.slice C m2 d2,.slice C' m2' d2',g.al,.slice D m3 d3,.slice D' m3' d3'] 31)):=((dB w).alloc _).alloc _;obtain⟨b1,b2⟩:=zJ (dB ((w.alloc (.cells #[p.al,.slice B m1 d1,.slice B' m1' d1'] 27)).alloc (.cells #[f.al,.slice C m2 d2,.slice C' m2' d2',g.al,.slice D m3 d3,.slice D' m3' d3'] 31)));cases hT:three ss p
 ·have hr:=za (show zbc ss p f g=1 by unfold zbc;rw [hT];rfl);have hc1:=za (show zas ss p = -1 by unfold zas;rw [hT];rfl);clear hT
  go_enter Tryz.func24,Tryz.ntmps24
  go_upto_region 1 with fail
  generalize (w.alloc _).alloc _=w1 at *;have c1:=b1.cell;go_wp2_with (go_at_call 56;refine (HCL.out _ hw1).mono ?_;rw [hc1.out];rintro e w2 ⟨rfl,hx2⟩)
  go_ret;exact⟨zH (by rw [hr.out]),hw1.trans hx2⟩
 ·obtain⟨x,y,z,rfl⟩:=zbm hT;obtain⟨v,u,O⟩:=zdd hT;obtain rfl:n=3:=L.out;have hc1:=za u;obtain⟨E,hq2⟩:∃ E:Int,Hid (zbJ [x,y,z] p=E):=⟨_,rfl⟩;have a:=za hT;clear hT u L;have M:¬ (v:Int)<0:=oM;obtain⟨b,o,rfl,J⟩:∃ b o,A=some ⟨b,o,none⟩∧Hid (∃ (Bx By Bz:Option Addr) (nx_ ny nz cx cy cz:Nat),∀ W,Ext w W->(∀ j,W.cell? ⟨b,o+j,none⟩=#[Value.int .i64 x.al,.int .i64 x.st,.slice Bx nx_ cx,.int .i64 y.al,.int .i64 y.st,.slice By ny cy,.int .i64 z.al,.int .i64 z.st,.slice Bz nz cz][j]?∨9<=j)∧zQ W lo hi Bx nx_ x∧zQ W lo hi By ny y∧zQ W lo hi Bz nz z):=by
   exact yH07a1
  by_cases hV:(zj f&&zj g)=true
  ·simp only [dH] at hV;have V1:=za hV.1;have V2:=za hV.2;clear hV
   by_cases hE1:f.al=(v:Int)
   ·by_cases hE2:g.al=E
    ·skip;have hr:=za (show zbc [x,y,z] p f g=if (zbd x f p&&zbd y g f)=false then 3 else if zaW [z] g=false then 4 else 0 by
      unfold zbc;rw [a.out,V1.out,V2.out,hc1.out,hq2.out,decide_eq_true hE1,decide_eq_true hE2];rfl)
     have Q:=za hE1;have R:=za hE2;have t:(f.al != (v:Int))=false:=by simp [hE1]
     have I:(g.al != E)=false:=by simp [hE2]
     clear hE1 hE2;obtain⟨Bx,By,Bz,nx_,ny,nz,cx,cy,cz,r⟩:=J.out;have HX2:=za r;clear J r;have HK1:=za (fun W (hW:Ext w W)=>zeM (c:=cx) (d1:=d2) (d1':=d2') (d2:=d1) (d2':=d1') (HX2.out W hW).2.1 (m.out W hW) (G.out W hW));have HK2:=za (fun W (hW:Ext w W)=>zeM (c:=cy) (d1:=d3) (d1':=d3') (d2:=d2) (d2':=d2') (HX2.out W hW).2.2.1 (q.out W hW) (m.out W hW));have HK3:=za (fun W (hW:Ext w W)=>zge (c:=cz) (d2:=d3) (d2':=d3') (HX2.out W hW).2.2.2 (q.out W hW));generalize zbd x f p=T at *;generalize zbd y g f=U at *;generalize zaW [z] g=V at *;cases T
     rotate_left
     ·cases U
      rotate_left
      ·cases V
       all_goals
        go_enter Tryz.func24,Tryz.ntmps24
        go_upto_region 1 with fail
        generalize (w.alloc _).alloc _=w1 at *;have c1:=b1.cell;go_upto_region 6 with (first
         |(go_at_call 56;refine (HCL.out _ hw1).mono ?_;rw [hc1.out,hq2.out];rintro e w2 ⟨rfl,hx2⟩;have hw2:=hw1.trans hx2;have c22:=(b2.ext hx2).cell)
         |(go_at_call 79;with_reducible refine (HF.out _ hw2).mono ?_;rw [V1.out];rintro e w3 ⟨rfl,hx3⟩;have hw3:=hw2.trans hx3;have c32:=(b2.ext (hx2.trans hx3)).cell)
         |(go_at_call 79;with_reducible refine (HG.out _ hw3).mono ?_;rw [V2.out];rintro e w4 ⟨rfl,hx4⟩;have hw4:=hw3.trans hx4;have c42:=(b2.ext (hx2.trans (hx3.trans hx4))).cell))
        have hx14:=hx2.trans (hx3.trans hx4);have i:=b1.ext hx14;have k:=b2.ext hx14;have H:=i.cells;have F:=k.cells;have l:∀ W,Ext w4 W->W.cell? ⟨b,o,none⟩=some (.int .i64 x.al)∧W.cell? ⟨b,o+1,none⟩=some (.int .i64 x.st)∧W.cell? ⟨b,o+2,none⟩=some (.slice Bx nx_ cx)∧W.cell? ⟨b,o+3,none⟩=some (.int .i64 y.al)∧W.cell? ⟨b,o+4,none⟩=some (.int .i64 y.st)∧W.cell? ⟨b,o+5,none⟩=some (.slice By ny cy)∧W.cell? ⟨b,o+6,none⟩=some (.int .i64 z.al)∧W.cell? ⟨b,o+7,none⟩=some (.int .i64 z.st)∧W.cell? ⟨b,o+8,none⟩=some (.slice Bz nz cz):=fun W hW=>by
         exact yH07a5
        have hww:=dB w4;clear c1 c22 c32 c42 i k;refine uR (fun X=>Ext w4 X) [16] (zv.of [0,1,2,3,4,5,6,7,8,9,10,11,12,13,14,15,16,17,18]) ?_;refine uQ ?_;refine ze fun K hK=>?_;go_simp;refine (HK1.out _ (hw4.trans hww.drew)).mono (mQ fun w5 hy0=>?_);have hy:=hww.drew.trans hy0;refine hK.out _ _ hy ?_;refine pT ?_;refine uQ ?_;refine zb fun K hK=>?_;go_simp;refine (HK2.out _ (hw4.trans hy)).mono (mQ fun w6 hy1=>?_);have hyy:=hy.trans hy1;refine hK.out _ _ ?_;refine pT ?_;refine uQ ?_;refine zf ?_;go_wp2_with fail
        have hyy0:=hyy;clear H F l hww;go_upto_region 8 with fail
        have S:∀ W,Ext w6 W->W.cell? ⟨b,o+6,none⟩=some (.int .i64 z.al)∧W.cell? ⟨b,o+7,none⟩=some (.int .i64 z.st)∧W.cell? ⟨b,o+8,none⟩=some (.slice Bz nz cz):=fun W hW=>by
         exact yH07a12
        have F:∀ W,Ext w6 W->∀ j,W.cell? ⟨w.heap.size+1,j,none⟩=#[Value.int .i64 f.al,.slice C m2 d2,.slice C' m2' d2',.int .i64 g.al,.slice D m3 d3,.slice D' m3' d3'][j]?:=fun W hW=>(b2.ext (hx14.trans (hyy0.trans hW))).cell;have hww:=dB w6;refine uR (fun X=>Ext w6 X) [5] (zv.of [0,1,2,3,4,5,6]) ?_;exact yH07a6
      ·go_enter Tryz.func24,Tryz.ntmps24
       go_upto_region 1 with fail
       generalize (w.alloc _).alloc _=w1 at *;have c1:=b1.cell;go_upto_region 6 with (first
        |(go_at_call 56;refine (HCL.out _ hw1).mono ?_;rw [hc1.out,hq2.out];rintro e w2 ⟨rfl,hx2⟩;have hw2:=hw1.trans hx2;have c22:=(b2.ext hx2).cell)
        |(go_at_call 79;with_reducible refine (HF.out _ hw2).mono ?_;rw [V1.out];rintro e w3 ⟨rfl,hx3⟩;have hw3:=hw2.trans hx3;have c32:=(b2.ext (hx2.trans hx3)).cell)
        |(go_at_call 79;with_reducible refine (HG.out _ hw3).mono ?_;rw [V2.out];rintro e w4 ⟨rfl,hx4⟩;have hw4:=hw3.trans hx4;have c42:=(b2.ext (hx2.trans (hx3.trans hx4))).cell))
       have hx14:=hx2.trans (hx3.trans hx4);have i:=b1.ext hx14;have k:=b2.ext hx14;have H:=i.cells;have F:=k.cells;have l:∀ W,Ext w4 W->W.cell? ⟨b,o,none⟩=some (.int .i64 x.al)∧W.cell? ⟨b,o+1,none⟩=some (.int .i64 x.st)∧W.cell? ⟨b,o+2,none⟩=some (.slice Bx nx_ cx)∧W.cell? ⟨b,o+3,none⟩=some (.int .i64 y.al)∧W.cell? ⟨b,o+4,none⟩=some (.int .i64 y.st)∧W.cell? ⟨b,o+5,none⟩=some (.slice By ny cy)∧W.cell? ⟨b,o+6,none⟩=some (.int .i64 z.al)∧W.cell? ⟨b,o+7,none⟩=some (.int .i64 z.st)∧W.cell? ⟨b,o+8,none⟩=some (.slice Bz nz cz):=fun W hW=>by
        exact yH07a5
       have hww:=dB w4;clear c1 c22 c32 c42 i k;refine uR (fun X=>Ext w4 X) [16] (zv.of [0,1,2,3,4,5,6,7,8,9,10,11,12,13,14,15,16,17,18]) ?_;exact yH07a4
     ·go_enter Tryz.func24,Tryz.ntmps24
      go_upto_region 1 with fail
      generalize (w.alloc _).alloc _=w1 at *;have c1:=b1.cell;go_upto_region 6 with (first
       |(go_at_call 56;refine (HCL.out _ hw1).mono ?_;rw [hc1.out,hq2.out];rintro e w2 ⟨rfl,hx2⟩;have hw2:=hw1.trans hx2;have c22:=(b2.ext hx2).cell)
       |(go_at_call 79;with_reducible refine (HF.out _ hw2).mono ?_;rw [V1.out];rintro e w3 ⟨rfl,hx3⟩;have hw3:=hw2.trans hx3;have c32:=(b2.ext (hx2.trans hx3)).cell)
       |(go_at_call 79;with_reducible refine (HG.out _ hw3).mono ?_;rw [V2.out];rintro e w4 ⟨rfl,hx4⟩;have hw4:=hw3.trans hx4;have c42:=(b2.ext (hx2.trans (hx3.trans hx4))).cell))
      have hx14:=hx2.trans (hx3.trans hx4);have i:=b1.ext hx14;have k:=b2.ext hx14;have H:=i.cells;have F:=k.cells;have l:∀ W,Ext w4 W->W.cell? ⟨b,o,none⟩=some (.int .i64 x.al)∧W.cell? ⟨b,o+1,none⟩=some (.int .i64 x.st)∧W.cell? ⟨b,o+2,none⟩=some (.slice Bx nx_ cx)∧W.cell? ⟨b,o+3,none⟩=some (.int .i64 y.al)∧W.cell? ⟨b,o+4,none⟩=some (.int .i64 y.st)∧W.cell? ⟨b,o+5,none⟩=some (.slice By ny cy)∧W.cell? ⟨b,o+6,none⟩=some (.int .i64 z.al)∧W.cell? ⟨b,o+7,none⟩=some (.int .i64 z.st)∧W.cell? ⟨b,o+8,none⟩=some (.slice Bz nz cz):=fun W hW=>by
       exact yH07a5
      have hww:=dB w4;clear c1 c22 c32 c42 i k;refine uR (fun X=>Ext w4 X) [16] (zv.of [0,1,2,3,4,5,6,7,8,9,10,11,12,13,14,15,16,17,18]) ?_;exact yH07a8
    ·have hr:=za (show zbc [x,y,z] p f g=2 by
      unfold zbc;rw [a.out,V1.out,V2.out,hc1.out,hq2.out,decide_eq_false hE2]
      simp)
     have t:(f.al != (v:Int))=false:=by simp [hE1]
     have I:(g.al != E)=true:=by simp [hE2]
     clear hE1 hE2;exact yH07a3
   ·have hr:=za (show zbc [x,y,z] p f g=2 by
     unfold zbc;rw [a.out,V1.out,V2.out,hc1.out,hq2.out,decide_eq_false hE1]
     simp)
    have t:(f.al != (v:Int))=true:=by simp [hE1]
    clear hE1;exact yH07a3
  ·have s:=za (show (zj f&&zj g)=false by simpa using hV);have hr:=za (show zbc [x,y,z] p f g=1 by unfold zbc;rw [a.out,s.out];rfl);clear hV;cases h2:zj f<;>cases h3:zj g
   all_goals first
    |(exfalso;have:=s.out;rw [h2,h3] at this;cases this;done)
    |(have V1:=za h2
      have V2:=za h3;clear h2 h3
      go_enter Tryz.func24,Tryz.ntmps24
      go_upto_region 1 with fail
      generalize (w.alloc _).alloc _=w1 at *;have c1:=b1.cell;go_wp2_with (first
       |(go_at_call 56;refine (HCL.out _ hw1).mono ?_;rw [hc1.out,hq2.out];rintro e w2 ⟨rfl,hx2⟩;have hw2:=hw1.trans hx2;have c22:=(b2.ext hx2).cell)
       |(go_at_call 79;with_reducible refine (HF.out _ hw2).mono ?_;rw [V1.out];rintro e w3 ⟨rfl,hx3⟩;have hw3:=hw2.trans hx3;have c32:=(b2.ext (hx2.trans hx3)).cell)
       |(go_at_call 79;with_reducible refine (HG.out _ hw3).mono ?_;rw [V2.out];rintro e w4 ⟨rfl,hx4⟩;have hw4:=hw3.trans hx4;have c42:=(b2.ext (hx2.trans (hx3.trans hx4))).cell))
      go_ret;exact⟨zH (by rw [hr.out]),by first|exact hw4|exact hw3⟩)
theorem yH07a2 {P:Prop}(h:P:=by
 go_enter Tryz.func22,Tryz.ntmps22
 go_upto_region 1 with fail
 generalize (w.alloc _).alloc _=w1 at *;have c1:=b1.cell;go_wp2_with (first
  |(go_at_call 23;refine (HCL.out _ hw1).mono ?_;rw [hc1.out,hq2.out];rintro e w2 ⟨rfl,hx2⟩;have hw2:=hw1.trans hx2;have c22:=(b2.ext hx2).cell)
  |(go_at_call 25;with_reducible refine (HF.out _ hw2).mono ?_;rw [V1.out];rintro e w3 ⟨rfl,hx3⟩;have hw3:=hw2.trans hx3;have c32:=(b2.ext (hx2.trans hx3)).cell)
  |(go_at_call 25;with_reducible refine (HG.out _ hw3).mono ?_;rw [V2.out];rintro e w4 ⟨rfl,hx4⟩;have hw4:=hw3.trans hx4;have c42:=(b2.ext (hx2.trans (hx3.trans hx4))).cell))
 go_ret;exact⟨zH (by rw [hr.out]),hw4⟩
 ):P:=h
theorem impl_ChainFault (h:zdE w lo hi A n ss)(hp:zD w lo1 hi1 B m1 B' m1' p)(hf:zD w lo2 hi2 C m2 C' m2' f)(hg:zD w lo3 hi3 D m3 D' m3' g)(hT:Tab w) :
  Calls Tryz.prog 22 #[.slice A n c,.agg #[p.al,.slice B m1 d1,.slice B' m1' d1'],.agg #[f.al,.slice C m2 d2,.slice C' m2' d2',g.al,.slice D m3 d3,.slice D' m3' d3']] w fun e w'=>e=.returned (.int .i64 (zbc ss p f g))∧Ext w w':=by
 have HS:=za (fun W (hW:Ext w W)=>h.ext hW);have G:=za (fun W (hW:Ext w W)=>hp.ext hW);have m:=za (fun W (hW:Ext w W)=>hf.ext hW);have q:=za (fun W (hW:Ext w W)=>hg.ext hW);have H:=za (fun W (hW:Ext w W)=>hT.ext hW);have HCL:=za (fun W (hW:Ext w W)=>zcy (c:=c) (d:=d1) (d':=d1') (h.ext hW) (hp.ext hW));have HF:=za (fun W (hW:Ext w W)=>zA _ _ _ _ d2 _ _ d2' _ _ (hf.ext hW));have HG:=za (fun W (hW:Ext w W)=>zA _ _ _ _ d3 _ _ d3' _ _ (hg.ext hW));have M:=za h.1;clear h hp hf hg hT;have hw1:Ext w ((w.alloc (.cells #[p.al,.slice B m1 d1,.slice B' m1' d1'] 27)).alloc (.cells #[f.al,.slice C m2 d2,.slice C' m2' d2',g.al,.slice D m3 d3,.slice D' m3' d3'] 31)):=((dB w).alloc _).alloc _;obtain⟨b1,b2⟩:=zJ (dB ((w.alloc (.cells #[p.al,.slice B m1 d1,.slice B' m1' d1'] 27)).alloc (.cells #[f.al,.slice C m2 d2,.slice C' m2' d2',g.al,.slice D m3 d3,.slice D' m3' d3'] 31)));cases hT:three ss p
 ·have hr:=za (show zbc ss p f g=1 by unfold zbc;rw [hT];rfl);have hc1:=za (show zas ss p = -1 by unfold zas;rw [hT];rfl);clear hT
  go_enter Tryz.func22,Tryz.ntmps22
  go_upto_region 1 with fail
  generalize (w.alloc _).alloc _=w1 at *;have c1:=b1.cell;go_wp2_with (go_at_call 23;refine (HCL.out _ hw1).mono ?_;rw [hc1.out];rintro e w2 ⟨rfl,hx2⟩)
  go_ret;exact⟨zH (by rw [hr.out]),hw1.trans hx2⟩
 ·obtain⟨x,y,z,rfl⟩:=zbm hT;obtain⟨v,u,Q⟩:=zdd hT;obtain rfl:n=3:=M.out;have hc1:=za u;obtain⟨E,hq2⟩:∃ E:Int,Hid (zbJ [x,y,z] p=E):=⟨_,rfl⟩;have a:=za hT;clear hT u M;have O:¬ (v:Int)<0:=oM;obtain⟨b,o,rfl,L⟩:∃ b o,A=some ⟨b,o,none⟩∧Hid (∃ (Bx By Bz:Option Addr) (nx_ ny nz cx cy cz:Nat),∀ W,Ext w W->(∀ j,W.cell? ⟨b,o+j,none⟩=#[Value.int .i64 x.al,.int .i64 x.st,.slice Bx nx_ cx,.int .i64 y.al,.int .i64 y.st,.slice By ny cy,.int .i64 z.al,.int .i64 z.st,.slice Bz nz cz][j]?∨9<=j)∧zQ W lo hi Bx nx_ x∧zQ W lo hi By ny y∧zQ W lo hi Bz nz z):=by
   exact yH07a1
  by_cases hV:(zj f&&zj g)=true
  ·simp only [dH] at hV;have V1:=za hV.1;have V2:=za hV.2;clear hV
   by_cases hE1:f.al=(v:Int)
   ·by_cases hE2:g.al=E
    ·skip;have hr:=za (show zbc [x,y,z] p f g=if (zbd x f p&&zbd y g f)=false then 3 else if zaW [z] g=false then 4 else 0 by
      unfold zbc;rw [a.out,V1.out,V2.out,hc1.out,hq2.out,decide_eq_true hE1,decide_eq_true hE2];rfl)
     have R:=za hE1;have S:=za hE2;have t:(f.al != (v:Int))=false:=by simp [hE1]
     have J:(g.al != E)=false:=by simp [hE2]
     clear hE1 hE2;obtain⟨Bx,By,Bz,nx_,ny,nz,cx,cy,cz,r⟩:=L.out;have HX2:=za r;clear L r;have HK1:=za (fun W (hW:Ext w W)=>zeB (c:=cx) (d1:=d2) (d1':=d2') (d2:=d1) (d2':=d1') (HX2.out W hW).2.1 (m.out W hW) (G.out W hW) (H.out W hW));have HK2:=za (fun W (hW:Ext w W)=>zeB (c:=cy) (d1:=d3) (d1':=d3') (d2:=d2) (d2':=d2') (HX2.out W hW).2.2.1 (q.out W hW) (m.out W hW) (H.out W hW));have HK3:=za (fun W (hW:Ext w W)=>zfQ (c:=cz) (d2:=d3) (d2':=d3') (HX2.out W hW).2.2.2 (q.out W hW) (H.out W hW));generalize zbd x f p=U at *;generalize zbd y g f=V at *;generalize zaW [z] g=Y at *;cases U
     rotate_left
     ·cases V
      rotate_left
      ·cases Y
       all_goals
        go_enter Tryz.func22,Tryz.ntmps22
        go_upto_region 1 with fail
        generalize (w.alloc _).alloc _=w1 at *;have c1:=b1.cell;go_upto_region 6 with (first
         |(go_at_call 23;refine (HCL.out _ hw1).mono ?_;rw [hc1.out,hq2.out];rintro e w2 ⟨rfl,hx2⟩;have hw2:=hw1.trans hx2;have c22:=(b2.ext hx2).cell)
         |(go_at_call 25;with_reducible refine (HF.out _ hw2).mono ?_;rw [V1.out];rintro e w3 ⟨rfl,hx3⟩;have hw3:=hw2.trans hx3;have c32:=(b2.ext (hx2.trans hx3)).cell)
         |(go_at_call 25;with_reducible refine (HG.out _ hw3).mono ?_;rw [V2.out];rintro e w4 ⟨rfl,hx4⟩;have hw4:=hw3.trans hx4;have c42:=(b2.ext (hx2.trans (hx3.trans hx4))).cell))
        have hx14:=hx2.trans (hx3.trans hx4);have i:=b1.ext hx14;have k:=b2.ext hx14;have I:=i.cells;have F:=k.cells;have l:∀ W,Ext w4 W->W.cell? ⟨b,o,none⟩=some (.int .i64 x.al)∧W.cell? ⟨b,o+1,none⟩=some (.int .i64 x.st)∧W.cell? ⟨b,o+2,none⟩=some (.slice Bx nx_ cx)∧W.cell? ⟨b,o+3,none⟩=some (.int .i64 y.al)∧W.cell? ⟨b,o+4,none⟩=some (.int .i64 y.st)∧W.cell? ⟨b,o+5,none⟩=some (.slice By ny cy)∧W.cell? ⟨b,o+6,none⟩=some (.int .i64 z.al)∧W.cell? ⟨b,o+7,none⟩=some (.int .i64 z.st)∧W.cell? ⟨b,o+8,none⟩=some (.slice Bz nz cz):=fun W hW=>by
         exact yH07a5
        have hww:=dB w4;clear c1 c22 c32 c42 i k;refine uR (fun X=>Ext w4 X) [16] (zv.of [0,1,2,3,4,5,6,7,8,9,10,11,12,13,14,15,16,17,18,19]) ?_;refine uQ ?_;refine ze fun K hK=>?_;go_simp;refine (HK1.out _ (hw4.trans hww.drew)).mono (mQ fun w5 hy0=>?_);have hy:=hww.drew.trans hy0;refine hK.out _ _ hy ?_;refine pT ?_;refine uQ ?_;refine zb fun K hK=>?_;go_simp;refine (HK2.out _ (hw4.trans hy)).mono (mQ fun w6 hy1=>?_);have hyy:=hy.trans hy1;refine hK.out _ _ ?_;refine pT ?_;refine uQ ?_;refine zf ?_;go_wp2_with fail
        have hyy0:=hyy;clear I F l hww;go_upto_region 8 with fail
        have T:∀ W,Ext w6 W->W.cell? ⟨b,o+6,none⟩=some (.int .i64 z.al)∧W.cell? ⟨b,o+7,none⟩=some (.int .i64 z.st)∧W.cell? ⟨b,o+8,none⟩=some (.slice Bz nz cz):=fun W hW=>by
         exact yH07a12
        have F:∀ W,Ext w6 W->∀ j,W.cell? ⟨w.heap.size+1,j,none⟩=#[Value.int .i64 f.al,.slice C m2 d2,.slice C' m2' d2',.int .i64 g.al,.slice D m3 d3,.slice D' m3' d3'][j]?:=fun W hW=>(b2.ext (hx14.trans (hyy0.trans hW))).cell;have hww:=dB w6;refine uR (fun X=>Ext w6 X) [5] (zv.of [0,1,2,3,4,5,6,7]) ?_;exact yH07a6
      ·go_enter Tryz.func22,Tryz.ntmps22
       go_upto_region 1 with fail
       generalize (w.alloc _).alloc _=w1 at *;have c1:=b1.cell;go_upto_region 6 with (first
        |(go_at_call 23;refine (HCL.out _ hw1).mono ?_;rw [hc1.out,hq2.out];rintro e w2 ⟨rfl,hx2⟩;have hw2:=hw1.trans hx2;have c22:=(b2.ext hx2).cell)
        |(go_at_call 25;with_reducible refine (HF.out _ hw2).mono ?_;rw [V1.out];rintro e w3 ⟨rfl,hx3⟩;have hw3:=hw2.trans hx3;have c32:=(b2.ext (hx2.trans hx3)).cell)
        |(go_at_call 25;with_reducible refine (HG.out _ hw3).mono ?_;rw [V2.out];rintro e w4 ⟨rfl,hx4⟩;have hw4:=hw3.trans hx4;have c42:=(b2.ext (hx2.trans (hx3.trans hx4))).cell))
       have hx14:=hx2.trans (hx3.trans hx4);have i:=b1.ext hx14;have k:=b2.ext hx14;have I:=i.cells;have F:=k.cells;have l:∀ W,Ext w4 W->W.cell? ⟨b,o,none⟩=some (.int .i64 x.al)∧W.cell? ⟨b,o+1,none⟩=some (.int .i64 x.st)∧W.cell? ⟨b,o+2,none⟩=some (.slice Bx nx_ cx)∧W.cell? ⟨b,o+3,none⟩=some (.int .i64 y.al)∧W.cell? ⟨b,o+4,none⟩=some (.int .i64 y.st)∧W.cell? ⟨b,o+5,none⟩=some (.slice By ny cy)∧W.cell? ⟨b,o+6,none⟩=some (.int .i64 z.al)∧W.cell? ⟨b,o+7,none⟩=some (.int .i64 z.st)∧W.cell? ⟨b,o+8,none⟩=some (.slice Bz nz cz):=fun W hW=>by
        exact yH07a5
       have hww:=dB w4;clear c1 c22 c32 c42 i k;refine uR (fun X=>Ext w4 X) [16] (zv.of [0,1,2,3,4,5,6,7,8,9,10,11,12,13,14,15,16,17,18,19]) ?_;exact yH07a4
     ·go_enter Tryz.func22,Tryz.ntmps22
      go_upto_region 1 with fail
      generalize (w.alloc _).alloc _=w1 at *;have c1:=b1.cell;go_upto_region 6 with (first
       |(go_at_call 23;refine (HCL.out _ hw1).mono ?_;rw [hc1.out,hq2.out];rintro e w2 ⟨rfl,hx2⟩;have hw2:=hw1.trans hx2;have c22:=(b2.ext hx2).cell)
       |(go_at_call 25;with_reducible refine (HF.out _ hw2).mono ?_;rw [V1.out];rintro e w3 ⟨rfl,hx3⟩;have hw3:=hw2.trans hx3;have c32:=(b2.ext (hx2.trans hx3)).cell)
       |(go_at_call 25;with_reducible refine (HG.out _ hw3).mono ?_;rw [V2.out];rintro e w4 ⟨rfl,hx4⟩;have hw4:=hw3.trans hx4;have c42:=(b2.ext (hx2.trans (hx3.trans hx4))).cell))
      have hx14:=hx2.trans (hx3.trans hx4);have i:=b1.ext hx14;have k:=b2.ext hx14;have I:=i.cells;have F:=k.cells;have l:∀ W,Ext w4 W->W.cell? ⟨b,o,none⟩=some (.int .i64 x.al)∧W.cell? ⟨b,o+1,none⟩=some (.int .i64 x.st)∧W.cell? ⟨b,o+2,none⟩=some (.slice Bx nx_ cx)∧W.cell? ⟨b,o+3,none⟩=some (.int .i64 y.al)∧W.cell? ⟨b,o+4,none⟩=some (.int .i64 y.st)∧W.cell? ⟨b,o+5,none⟩=some (.slice By ny cy)∧W.cell? ⟨b,o+6,none⟩=some (.int .i64 z.al)∧W.cell? ⟨b,o+7,none⟩=some (.int .i64 z.st)∧W.cell? ⟨b,o+8,none⟩=some (.slice Bz nz cz):=fun W hW=>by
       exact yH07a5
      have hww:=dB w4;clear c1 c22 c32 c42 i k;refine uR (fun X=>Ext w4 X) [16] (zv.of [0,1,2,3,4,5,6,7,8,9,10,11,12,13,14,15,16,17,18,19]) ?_;exact yH07a8
    ·have hr:=za (show zbc [x,y,z] p f g=2 by
      unfold zbc;rw [a.out,V1.out,V2.out,hc1.out,hq2.out,decide_eq_false hE2]
      simp)
     have t:(f.al != (v:Int))=false:=by simp [hE1]
     have J:(g.al != E)=true:=by simp [hE2]
     clear hE1 hE2;exact yH07a2
   ·have hr:=za (show zbc [x,y,z] p f g=2 by
     unfold zbc;rw [a.out,V1.out,V2.out,hc1.out,hq2.out,decide_eq_false hE1]
     simp)
    have t:(f.al != (v:Int))=true:=by simp [hE1]
    clear hE1;exact yH07a2
  ·have s:=za (show (zj f&&zj g)=false by simpa using hV);have hr:=za (show zbc [x,y,z] p f g=1 by unfold zbc;rw [a.out,s.out];rfl);clear hV;cases h2:zj f<;>cases h3:zj g
   all_goals first
    |(exfalso;have:=s.out;rw [h2,h3] at this;cases this;done)
    |(have V1:=za h2
      have V2:=za h3;clear h2 h3
      go_enter Tryz.func22,Tryz.ntmps22
      go_upto_region 1 with fail
      generalize (w.alloc _).alloc _=w1 at *;have c1:=b1.cell;go_wp2_with (first
       |(go_at_call 23;refine (HCL.out _ hw1).mono ?_;rw [hc1.out,hq2.out];rintro e w2 ⟨rfl,hx2⟩;have hw2:=hw1.trans hx2;have c22:=(b2.ext hx2).cell)
       |(go_at_call 25;with_reducible refine (HF.out _ hw2).mono ?_;rw [V1.out];rintro e w3 ⟨rfl,hx3⟩;have hw3:=hw2.trans hx3;have c32:=(b2.ext (hx2.trans hx3)).cell)
       |(go_at_call 25;with_reducible refine (HG.out _ hw3).mono ?_;rw [V2.out];rintro e w4 ⟨rfl,hx4⟩;have hw4:=hw3.trans hx4;have c42:=(b2.ext (hx2.trans (hx3.trans hx4))).cell))
      go_ret;exact⟨zH (by rw [hr.out]),by first|exact hw4|exact hw3⟩)
end
def iface (s:Sys) (p:Aut) (t:Sys):Int:=if (zk s&&(zj p&&zk t))=true then (((s.al.toNat|||p.al.toNat)&&&t.al.toNat:Nat):Int) else -1
section
variable {lo hi n c:Nat} {A:Option Addr} {s:Sys} {lo1 hi1 m1 d1 m1' d1':Nat} {B B':Option Addr} {p:Aut} {lo2 hi2 k c2:Nat} {C:Option Addr} {t:Sys} {w:World}
theorem zes (h:zQ w lo hi A n s)(hp:zD w lo1 hi1 B m1 B' m1' p)(ht:zQ w lo2 hi2 C k t) :
  Calls Tryz.prog 95 #[.agg #[s.al,s.st,.slice A n c],.agg #[p.al,.slice B m1 d1,.slice B' m1' d1'],.agg #[t.al,t.st,.slice C k c2]] w fun e w'=>e=.returned (.int .i64 (iface s p t))∧Ext w w':=by
 have HS:=za (fun W (hW:Ext w W)=>zan (c:=c) (h.ext hW));have l:=za (fun W (hW:Ext w W)=>zK _ _ _ _ d1 _ _ d1' _ _ (hp.ext hW));have m:=za (fun W (hW:Ext w W)=>zan (c:=c2) (ht.ext hW));clear h hp ht;cases h1:zk s<;>cases h2:zj p<;>cases h3:zk t
 case true.true.true =>
  have g:=za h1;have i:=za h2;have j:=za h3;have r:=zF h1;have u:=(zl h2).1;have v:=zF h3;obtain⟨a,o⟩:∃ a:Nat,Hid (s.al=a):=⟨s.al.toNat,by unfold Hid;omega⟩;obtain⟨b,hb⟩:∃ a:Nat,Hid (p.al=a):=⟨p.al.toNat,by unfold Hid;omega⟩;obtain⟨d,q⟩:∃ a:Nat,Hid (t.al=a):=⟨t.al.toNat,by unfold Hid;omega⟩;have hr:=za (show iface s p t=((((a|||b)&&&d:Nat)):Int) by unfold iface;rw [h1,h2,h3,o.out,hb.out,q.out];rfl);rw [o.out] at r;rw [hb.out] at u;rw [q.out] at v;have E:a<=63:=oM;have F:b<=63:=oM;have G:d<=63:=oM;have D:=eV (n:=6) (x:=a) (y:=b) oM oM;have I:=zbn (a:=a) (b:=b) tM tM;have H:=zcm (a:=a|||b) (b:=d) tM tM;clear h1 h2 h3 r u v D;rw [o.out] at HS ⊢;rw [hb.out] at l ⊢;rw [q.out] at m ⊢
  go_enter Tryz.func95,Tryz.ntmps95
  go_upto_region 1 with fail
  generalize U0:((w.alloc _).alloc _).alloc _=w1 at *;obtain⟨hw1,b1,b2,f⟩:=Ext.x3_ U0;clear U0;have c1:=b1.cell;go_wp2_with (first
   |(go_at_call 185;with_reducible refine (HS.out _ hw1).mono ?_;rw [g.out];rintro e w2 ⟨rfl,hx2⟩;have hw2:=hw1.trans hx2;have c2:=(b2.ext hx2).cell)
   |(go_at_call 79;with_reducible refine (l.out _ hw2).mono ?_;rw [i.out];rintro e w3 ⟨rfl,hx3⟩;have hw3:=hw2.trans hx3;have z:=(f.ext (hx2.trans hx3)).cell)
   |(go_at_call 185;with_reducible refine (m.out _ hw3).mono ?_;rw [j.out];rintro e w4 ⟨rfl,hx4⟩;have hw4:=hw3.trans hx4;have J:=(b1.ext (hx2.trans (hx3.trans hx4))).cell;have L:=(b2.ext (hx2.trans (hx3.trans hx4))).cell;have M:=(f.ext (hx2.trans (hx3.trans hx4))).cell))
  go_ret;exact⟨zH (by rw [hr.out]),hw4⟩
 all_goals
  have hr:=za (show iface s p t = -1 by unfold iface;rw [h1,h2,h3];rfl);have g:=za h1;have i:=za h2;have j:=za h3;clear h1 h2 h3
  go_enter Tryz.func95,Tryz.ntmps95
  go_upto_region 1 with fail
  generalize U0:((w.alloc _).alloc _).alloc _=w1 at *;obtain⟨hw1,b1,b2,f⟩:=Ext.x3_ U0;clear U0;have c1:=b1.cell;go_wp2_with (first
   |(go_at_call 185;with_reducible refine (HS.out _ hw1).mono ?_;rw [g.out];rintro e w2 ⟨rfl,hx2⟩;have hw2:=hw1.trans hx2;have c2:=(b2.ext hx2).cell)
   |(go_at_call 79;with_reducible refine (l.out _ hw2).mono ?_;rw [i.out];rintro e w3 ⟨rfl,hx3⟩;have hw3:=hw2.trans hx3;have z:=(f.ext (hx2.trans hx3)).cell)
   |(go_at_call 185;with_reducible refine (m.out _ hw3).mono ?_;rw [j.out];rintro e w4 ⟨rfl,hx4⟩;have hw4:=hw3.trans hx4))
  go_ret;exact⟨zH (by rw [hr.out]),by first|exact hw4|exact hw3|exact hw2⟩
theorem zer (h:zQ w lo hi A n s)(hp:zD w lo1 hi1 B m1 B' m1' p)(ht:zQ w lo2 hi2 C k t) :
  Calls Tryz.prog 83 #[.agg #[s.al,s.st,.slice A n c],.agg #[p.al,.slice B m1 d1,.slice B' m1' d1'],.agg #[t.al,t.st,.slice C k c2]] w fun e w'=>e=.returned (.int .i64 (iface s p t))∧Ext w w':=by
 have HS:=za (fun W (hW:Ext w W)=>zaH (c:=c) (h.ext hW));have l:=za (fun W (hW:Ext w W)=>zA _ _ _ _ d1 _ _ d1' _ _ (hp.ext hW));have m:=za (fun W (hW:Ext w W)=>zaH (c:=c2) (ht.ext hW));clear h hp ht;cases h1:zk s<;>cases h2:zj p<;>cases h3:zk t
 case true.true.true =>
  have g:=za h1;have i:=za h2;have j:=za h3;have r:=zF h1;have u:=(zl h2).1;have v:=zF h3;obtain⟨a,o⟩:∃ a:Nat,Hid (s.al=a):=⟨s.al.toNat,by unfold Hid;omega⟩;obtain⟨b,hb⟩:∃ a:Nat,Hid (p.al=a):=⟨p.al.toNat,by unfold Hid;omega⟩;obtain⟨d,q⟩:∃ a:Nat,Hid (t.al=a):=⟨t.al.toNat,by unfold Hid;omega⟩;have hr:=za (show iface s p t=((((a|||b)&&&d:Nat)):Int) by unfold iface;rw [h1,h2,h3,o.out,hb.out,q.out];rfl);rw [o.out] at r;rw [hb.out] at u;rw [q.out] at v;have E:a<=63:=oM;have F:b<=63:=oM;have G:d<=63:=oM;have D:=eV (n:=6) (x:=a) (y:=b) oM oM;have I:=zbn (a:=a) (b:=b) tM tM;have H:=zcm (a:=a|||b) (b:=d) tM tM;clear h1 h2 h3 r u v D;rw [o.out] at HS ⊢;rw [hb.out] at l ⊢;rw [q.out] at m ⊢
  go_enter Tryz.func83,Tryz.ntmps83
  go_upto_region 1 with fail
  generalize U0:((w.alloc _).alloc _).alloc _=w1 at *;obtain⟨hw1,b1,b2,f⟩:=Ext.x3_ U0;clear U0;have c1:=b1.cell;go_wp2_with (first
   |(go_at_call 65;with_reducible refine (HS.out _ hw1).mono ?_;rw [g.out];rintro e w2 ⟨rfl,hx2⟩;have hw2:=hw1.trans hx2;have c2:=(b2.ext hx2).cell)
   |(go_at_call 25;with_reducible refine (l.out _ hw2).mono ?_;rw [i.out];rintro e w3 ⟨rfl,hx3⟩;have hw3:=hw2.trans hx3;have z:=(f.ext (hx2.trans hx3)).cell)
   |(go_at_call 65;with_reducible refine (m.out _ hw3).mono ?_;rw [j.out];rintro e w4 ⟨rfl,hx4⟩;have hw4:=hw3.trans hx4;have J:=(b1.ext (hx2.trans (hx3.trans hx4))).cell;have L:=(b2.ext (hx2.trans (hx3.trans hx4))).cell;have M:=(f.ext (hx2.trans (hx3.trans hx4))).cell))
  go_ret;exact⟨zH (by rw [hr.out]),hw4⟩
 all_goals
  have hr:=za (show iface s p t = -1 by unfold iface;rw [h1,h2,h3];rfl);have g:=za h1;have i:=za h2;have j:=za h3;clear h1 h2 h3
  go_enter Tryz.func83,Tryz.ntmps83
  go_upto_region 1 with fail
  generalize U0:((w.alloc _).alloc _).alloc _=w1 at *;obtain⟨hw1,b1,b2,f⟩:=Ext.x3_ U0;clear U0;have c1:=b1.cell;go_wp2_with (first
   |(go_at_call 65;with_reducible refine (HS.out _ hw1).mono ?_;rw [g.out];rintro e w2 ⟨rfl,hx2⟩;have hw2:=hw1.trans hx2;have c2:=(b2.ext hx2).cell)
   |(go_at_call 25;with_reducible refine (l.out _ hw2).mono ?_;rw [i.out];rintro e w3 ⟨rfl,hx3⟩;have hw3:=hw2.trans hx3;have z:=(f.ext (hx2.trans hx3)).cell)
   |(go_at_call 65;with_reducible refine (m.out _ hw3).mono ?_;rw [j.out];rintro e w4 ⟨rfl,hx4⟩;have hw4:=hw3.trans hx4))
  go_ret;exact⟨zH (by rw [hr.out]),by first|exact hw4|exact hw3|exact hw2⟩
end
noncomputable def faultA (s t:Sys) (p a:Aut):Int:=if iface s p t<0∨zj a=false then 1 else if a.al≠iface s p t then 2 else if zbd s a p=false then 3 else if zaW [t] a=false then 4 else 0
def wl (s:ByteArray):List Nat:=s.data.toList.map fun b=>b.toNat - 97
theorem zeu (s:ByteArray):(wl s).length=s.size:=by simp [wl]
theorem zdm (hk:k<s.size):(wl s)[k]?=some (s[k].toNat - 97):=by
 unfold wl;rw [eF,zco s k hk];rfl
theorem zaE (h:zaY s=true) (hk:k<s.size):97<=s[k].toNat∧s[k].toNat<=102:=by
 unfold zaY at h;simp only [dH,eW] at h;have:=h.2 s[k] (dC (zco s k hk));simp only [zdi,decide_eq_true_eq] at this;omega
theorem zaM (h:zaY s=true):s.size<=50000:=by
 unfold zaY at h;simp only [dH,decide_eq_true_eq] at h;exact h.1
theorem ziz (h:zaY s=true):∀ l∈wl s,l<6:=by
 intro l hl;obtain⟨k,b⟩:=eQ hl;have a:=(List.getElem?_eq_some_iff.1 b).1;rw [zeu] at a;rw [zdm a] at b;have:=zaE h a;have:=Option.some.inj b;omega
def alB (ls:List Nat):Nat:=ls.foldl (fun u l=>u|||2 ^ l) 0
theorem alB_snoc (ls:List Nat) (l:Nat):alB (ls++[l])=alB ls|||2 ^ l:=by simp [alB]
theorem zec (ls:List Nat) (k:Nat):(alB ls).testBit k=true↔k∈ls:=by
 have a:∀ (ls:List Nat) (u:Nat),(ls.foldl (fun u l=>u|||2 ^ l) u).testBit k=true↔u.testBit k=true∨k∈ls:=by
  intro ls
  induction ls with
  |nil=>intro u;simp
  |cons l r ih =>
   intro u;rw [iQ,ih,iZ,Nat.testBit_two_pow,gV,decide_eq_true_eq,List.mem_cons];constructor
   ·rintro ((h|h)|h)
    ·exact Or.inl h
    ·exact Or.inr (Or.inl h.symm)
    ·exact Or.inr (Or.inr h)
   ·rintro (h|h|h)
    ·exact Or.inl (Or.inl h)
    ·exact Or.inl (Or.inr h.symm)
    ·exact Or.inr h
 have:=a ls 0;simpa [alB] using this
theorem alB_lt (h:∀ l∈ls,l<6):alB ls<64:=Nat.lt_pow_two_of_testBit (n:=6) _ fun k hk=>by
 rw [fI]
 intro hb
 have:=h k ((zec ls k).1 hb)
 omega
def inB (s:ByteArray) (a:Nat):Bool:=decide (s.size<=50000)&&zex s a
theorem zaz (h:inB s a=true):zaY s=true:=by
 unfold inB at h;simp only [dH,decide_eq_true_eq] at h;unfold zaY;simp only [dH,decide_eq_true_eq];refine⟨h.1,?_⟩;rw [eW];intro b hb;have c:=h.2;unfold zex at c;rw [eW] at c;have d:=c b hb;unfold hasB ltr at d;simp only [dH,decide_eq_true_eq] at d;unfold zdi;rw [decide_eq_true_eq];have f:=d.1
 split at f<;>omega
theorem zfs :inB s a=true↔zaY s=true∧alB (wl s)&&&a=alB (wl s):=by
 constructor
 ·intro h;have f:=zaz h;refine⟨f,gH fun k=>?_⟩;rw [gW];cases hk:(alB (wl s)).testBit k
  ·rfl
  ·rw [jE];have g:=(zec _ k).1 hk;obtain⟨i,d⟩:=eQ g;have c:=(List.getElem?_eq_some_iff.1 d).1;rw [zeu] at c;rw [zdm c] at d;have hb:=zaE f c;have e:=Option.some.inj d;unfold inB zex at h;simp only [dH,eW] at h;have:=h.2 s[i] (dC (zco s i c));unfold hasB ltr at this;rw [if_neg oM] at this;simp only [dH] at this;rw [← e,← this.2]
   congr 1
   omega
 ·rintro ⟨f,h⟩;unfold inB;simp only [dH,decide_eq_true_eq];refine⟨zaM f,?_⟩;unfold zex;rw [eW];intro b hb;obtain⟨i,d⟩:=eQ hb;have c:i<s.size:=by have:=(List.getElem?_eq_some_iff.1 d).1;simpa using this
  rw [zco s i c] at d;obtain rfl:=Option.some.inj d;have j:=zaE f c;unfold hasB ltr;rw [if_neg oM];have g:(alB (wl s)).testBit (s[i].toNat - 97)=true:=(zec _ _).2 (dC (zdm c));rw [← h,gW,dH] at g;simp only [dH,decide_eq_true_eq];refine⟨oM,?_⟩;rw [show ((s[i].toNat:Int) - 97).toNat=s[i].toNat - 97 by omega];exact g.2
theorem zeJ (hs:s.size<=9223372036854775807) :
  Calls Tryz.prog 222 #[s] w fun e w'=>e=.returned (.tuple #[.int .i64 (if zaY s=true then alB (wl s) else 0:Nat),.bool (zaY s)])∧w=w':=by
 cases hw:zaY s
 ·have f:=za hw;clear hw
  go_enter Tryz.func222,Tryz.ntmps222
  go_wp2_with (go_at_call 141;refine (zdJ s _ hs).mono ?_;rw [f.out];rintro e w' ⟨rfl,rfl⟩)
  go_ret2;exact⟨rfl,rfl⟩
 ·have q:=zaM hw;have p:=za (fun k o=>zaE hw (k:=k) o);have t:=za (ziz hw);have f:=za hw;clear hw
  go_enter Tryz.func222,Tryz.ntmps222
  go_wp2_with (go_at_call 141;refine (zdJ s _ hs).mono ?_;rw [f.out];rintro e w' ⟨rfl,rfl⟩)
  go_loop [4,5] (fun v i=>∃ k u:Nat,k<=s.size∧i=.int .i64 k∧v=.int .i64 u∧u<64∧Hid (u=alB ((wl s).take k))) (fun _ i=>s.size - (intOf i).toNat)
  case atStart=>exact⟨0,0,dG _,rfl,rfl,oM,rfl⟩
  case round =>
   obtain⟨k,u,o,rfl,rfl,r,d⟩:=hrel
   by_cases hlt:k<s.size
   ·have g:=p.out k hlt;obtain⟨l,h⟩:∃ l:Nat,Hid ((s[k].toNat:Int) - 97=l):=⟨s[k].toNat - 97,by unfold Hid;omega⟩;have j:l<6:=oH h.out;have m:=za (show alB ((wl s).take (k+1))=u|||2 ^ l by
     rw [eA,zdm hlt,eS,alB_snoc,← d.out]
     congr 2
     have:=h.out;omega)
    have c:=za (show bits .or .i64 (u:Nat) ((2:Int) ^ l)=((u|||2 ^ l:Nat):Int) by
     have:=zbn (a:=u) tM (Sm.bit (n:=l) oM);rw [show (((2:Nat) ^ l:Nat):Int)=(2:Int) ^ l by simp] at this;exact this)
    have b:u|||2 ^ l<64:=eV (n:=6) r (Nat.pow_lt_pow_right oM j)
    have x:=c.out;clear g;go_wp2_with (first
     |(go_at_call 144;refine (zbx s k hlt _).mono ?_;rw [h.out];rintro e w' ⟨rfl,rfl⟩)
     |(go_at_call 270;refine (zgC l oM _).mono ?_;rintro e w' ⟨rfl,rfl⟩))
    go_round
    case rel=>exact⟨k+1,u|||2 ^ l,oM,gM,by first|rfl|rw [c.out],b,m.symm⟩
    case measure=>simp [intOf];omega
   ·obtain rfl:k=s.size:=oM;have zka:=za (show u=alB (wl s) by rw [d.out,dU (by rw [zeu];exact dD _)]);go_wp2;go_ret2;exact⟨by rw [zka.out];rfl,rfl⟩
theorem zai (hs:s.size<=9223372036854775807)(ha:a<=63) :
  Calls Tryz.prog 146 #[s,a] w fun e w'=>e=.returned (.bool (inB s a))∧w=w':=by
 have d:=za (show (decide ((0:Int)<=a∧(a:Int)<=63))=true by simp;omega);cases hw:zaY s
 ·have hr:=za (show inB s a=false by
   rw [fI];intro h;rw [zaz h] at hw;cases hw)
  have c:=za hw;clear hw
  go_enter Tryz.func146,Tryz.ntmps146
  go_wp2_with (go_at_call 222;refine (zeJ hs).mono ?_;rw [c.out];rintro e w' ⟨rfl,rfl⟩)
  go_ret;exact⟨zm (by rw [hr.out]),rfl⟩
 ·obtain⟨u,g⟩:∃ u,Hid (alB (wl s)=u):=⟨_,rfl⟩;have i:u<64:=by rw [← g.out];exact alB_lt (ziz hw)
  have f:=za (zcm (a:=u) (b:=a) tM tM);have hb:=f.out;have hr:=za (show inB s a=(((u&&&a:Nat):Int)==(u:Int)) by
   rw [gX,zfs,g.out,beq_iff_eq];constructor
   ·rintro ⟨_,h⟩;rw [h]
   ·intro h;exact⟨hw,oM⟩)
  have c:=za hw;clear hw
  go_enter Tryz.func146,Tryz.ntmps146
  go_wp2_with (first
   |(go_at_call 222;refine (zeJ hs).mono ?_;rw [c.out,if_pos rfl,g.out];rintro e w' ⟨rfl,rfl⟩)
   |(go_at_call 142;refine (zV _ _).mono ?_;rw [d.out];rintro e w' ⟨rfl,rfl⟩))
  go_ret;exact⟨zm (by rw [hr.out]),rfl⟩
def zjh (bs:List UInt8):List Int:=bs.map fun b=>(b.toNat:Int)
def bcl (bs:List UInt8):List Value:=(zjh bs).map (Value.int .u8)
theorem bcl_length (bs:List UInt8):(bcl bs).length=bs.length:=by simp [bcl,zjh]
def zfT (a:Nat) (bs:List UInt8):List UInt8:=bs.filter fun b=>hasB a (ltr b.toNat)
def zac (s:ByteArray) (a:Nat):ByteArray:=strOfNums (zjh (zfT a s.data.toList))
theorem ziM (hk:k<s.size):zfT a (s.data.toList.take (k+1))=zfT a (s.data.toList.take k)++if hasB a (ltr s[k].toNat)=true then [s[k]] else []:=by
 rw [eA,zco s k hk,eS];unfold zfT;rw [List.filter_append]
 congr 1
 cases h:hasB a (ltr s[k].toNat)<;>simp [h]
theorem zhG (s:ByteArray) (a k:Nat):(zfT a (s.data.toList.take k)).length<=s.size:=by
 refine eB (List.length_filter_le _ _) ?_;rw [List.length_take];have:s.data.toList.length=s.size:=sM;omega
theorem zjm {W:World} {base:Nat} {A:Option Addr} {cap:Nat} {bs:List UInt8}(h:W.ownsRow base 5 1 (.slice A n cap) n (bcl bs)) :
  (convert 22 9 (.slice A n cap)).run Tryz.prog W=.ok (.string (strOfNums (zjh bs))) W:=by
 have d:bs.length=n:=by have:=zdF h;rw [bcl_length] at this;omega
 rcases h.2 with ⟨a,j⟩|⟨g,c,f,a,_⟩
 ·injection a with a h3 h4
  subst a;subst h3;subst h4;obtain rfl:bs=[]:=eD d;exact run_convert_bytes_nil (P:=Tryz.prog) W 22 5 u8_row u8_und _ _ _ zjS
 ·injection a with a
  subst a;refine run_convert_bytes_arg (P:=Tryz.prog) W 22 5 u8_row u8_und g 0 n cap (zjh bs) (by simp [zjh,d]) (fun i hi=>?_) _ zjS;rw [Nat.zero_add,h.cellAt i oM];unfold bcl;rw [eF];have b:i<(zjh bs).length:=by simp [zjh];omega
  rw [dE b];simp [List.getD,dE b]
theorem own_u8_lit (w:World):(w.alloc (.cells #[] 5)).ownsRow w.heap.size 5 1 (.slice (some w.heap.size) 0 0) 0 (bcl []):=World.ownsRow_lit w #[] 0 (dD _) lM rfl
theorem yH07a9 {P:Prop}(h:P:=by
 obtain rfl:k=s.size:=oM;have zka:=za (show strOfNums (zjh bs)=zac s a by rw [hbs.out,List.take_of_length_le sM];rfl);obtain⟨A5,c5,rfl⟩:=zi zjX;have hcv:=zjm zjX;clear zjX;go_wp2_with (simp only [hcv])
 go_ret;exact⟨by rw [zka.out];rfl,hx⟩
 ):P:=h
theorem yH07a11 {P:Prop}(h:P:=by
 go_roundw
 case rel=>exact⟨k+1,bs++[s[k]],oM,gM,by rw [List.length_append];simpa [bcl,zjh] using zkj,hst2,by rw [List.length_append];exact hl3,hext5⟩
 case measure=>simp [intOf];omega
 ):P:=h
theorem zaK (hw:zaY s=true)(ha:a<=63) :
  Calls Tryz.prog 60 #[s,a] w fun e w'=>e=.returned (.string (zac s a))∧Ext w w':=by
 have m:=za (show (decide ((0:Int)<=a∧(a:Int)<=63))=true by simp;omega);have x:=zaM hw;have q:=za (fun k p=>zaE hw (k:=k) p);have r:=za hw;clear hw
 go_enter Tryz.func60,Tryz.ntmps60
 go_upto_region 3 with (first
  |(go_at_call 141;refine (zdJ s _ oM).mono ?_;rw [r.out];rintro e w' ⟨rfl,rfl⟩)
  |(go_at_call 142;refine (zV _ _).mono ?_;rw [m.out];rintro e w' ⟨rfl,rfl⟩))
 go_upto_region 4 with fail
 have c:=own_u8_lit w;have j:=(dB w).alloc (.cells #[] 5);generalize hA0:(some ⟨w.heap.size,0,none⟩:Option Addr)=y at *;clear hA0;generalize w.alloc _=z at *;go_wp2_with fail
 go_loopw [5,6] (fun v i wr=>∃ (k:Nat) (bs:List UInt8),k<=s.size∧i=.int .i64 k∧wr.ownsRow w.heap.size 5 1 v bs.length (bcl bs)∧Hid (bs=zfT a (s.data.toList.take k))∧bs.length<=50000∧Ext w wr) (fun _ i _=>s.size - (intOf i).toNat)
 case atStart=>exact⟨0,[],dG _,rfl,c,rfl,sM,j⟩
 case round =>
  clear c j;obtain⟨k,bs,p,rfl,zjX,hbs,n,hx⟩:=hrel
  by_cases hlt:k<s.size
  ·have t:=q.out k hlt;obtain⟨l,g⟩:∃ l:Nat,Hid ((s[k].toNat:Int) - 97=l):=⟨s[k].toNat - 97,by unfold Hid;omega⟩;have f:=za (show hasB a (ltr s[k].toNat)=a.testBit l by
    unfold hasB ltr;have:=g.out;rw [if_neg oM,this]
    simp)
   have h:=za (ziM (a:=a) hlt);have u:=zhG s a (k+1);have d:Sm a:=tM;have o:=za (show s.data.toList[k]?=some s[k] from zco s k hlt);cases hb:a.testBit l
   ·have b:=za hb;have hst2:=za (show bs=zfT a (s.data.toList.take (k+1)) by rw [h.out,f.out,b.out,hbs.out];simp);clear hb;go_wp2_with (first
     |(go_at_call 144;refine (zbx s k hlt _).mono ?_;rw [g.out];rintro e w' ⟨rfl,rfl⟩)
     |(go_at_call 143;refine (zav a l d _ (oH g.out)).mono ?_;rw [b.out];rintro e w' ⟨rfl,rfl⟩))
    go_roundw
    case rel=>exact⟨k+1,bs,oM,gM,zjX,hst2,n,hx⟩
    case measure=>simp [intOf];omega
   ·have b:=za hb;have hst2:=za (show bs++[s[k]]=zfT a (s.data.toList.take (k+1)) by rw [h.out,f.out,b.out,hbs.out];simp);have hl3:(bs++[s[k]]).length<=50000:=by rw [hst2.out];omega
    rw [eE,eP] at hl3;clear hb;go_wp2_with (first
     |(go_at_call 144;refine (zbx s k hlt _).mono ?_;rw [g.out];rintro e w' ⟨rfl,rfl⟩)
     |(go_at_call 143;refine (zav a l d _ (oH g.out)).mono ?_;rw [b.out];rintro e w' ⟨rfl,rfl⟩)
     |(at_builtin;refine zU w wr rfl _ _ _ rfl 5 _ 1 1 Tryz.underlying22 zjv rfl dM u5 _ _ _ _ rfl rfl hx zjX rfl (zjj _) lM oM ?_;intro v' w5 hext5 zkj hg5 hat5))
    exact yH07a11
  ·exact yH07a9
theorem zbF (hw:zaY s=true)(ha:a<=63) :
  Calls Tryz.prog 53 #[s,a] w fun e w'=>e=.returned (.string (zac s a))∧Ext w w':=by
 have m:=zaM hw;have h:=za (fun k g=>zaE hw (k:=k) g);clear hw;have c:Sm a:=tM
 go_enter Tryz.func53,Tryz.ntmps53
 go_wp2_with fail
 go_loopw [5,6,9] (fun v _ i wr=>∃ (k:Nat) (bs:List UInt8),k<=s.size∧i=.int .i64 k∧wr.ownsRow w.heap.size 5 1 v bs.length (bcl bs)∧Hid (bs=zfT a (s.data.toList.take k))∧bs.length<=50000∧Ext w wr) (fun _ _ i _=>s.size - (intOf i).toNat)
 case atStart=>exact⟨0,[],dG _,rfl,World.ownsRow_nil _ _ _ _,rfl,sM,dB _⟩
 case round =>
  obtain⟨k,bs,g,rfl,zjX,hbs,f,hx⟩:=hrel
  by_cases hlt:k<s.size
  ·have j:=h.out k hlt;have d:=za (ziM (a:=a) hlt);have l:=zhG s a (k+1);cases hb:hasB a (ltr s[k].toNat)
   ·have b:=za hb;have hst2:=za (show bs=zfT a (s.data.toList.take (k+1)) by rw [d.out,b.out,hbs.out];simp);clear hb;go_wp2_with (first
     |(go_at_call 121;refine (zaJ s k hlt _).mono ?_;rintro e w' ⟨rfl,rfl⟩)
     |(go_at_call 127;refine (zbQ a _ c _).mono ?_;rw [b.out];rintro e w' ⟨rfl,rfl⟩))
    go_roundw
    case rel=>exact⟨k+1,bs,oM,gM,zjX,hst2,f,hx⟩
    case measure=>simp [intOf];omega
   ·have b:=za hb;have hst2:=za (show bs++[s[k]]=zfT a (s.data.toList.take (k+1)) by rw [d.out,b.out,hbs.out];simp);have hl3:(bs++[s[k]]).length<=50000:=by rw [hst2.out];omega
    rw [eE,eP] at hl3;clear hb;go_wp2_with (first
     |(go_at_call 121;refine (zaJ s k hlt _).mono ?_;rintro e w' ⟨rfl,rfl⟩)
     |(go_at_call 127;refine (zbQ a _ c _).mono ?_;rw [b.out];rintro e w' ⟨rfl,rfl⟩)
     |(at_builtin;refine zU w wr rfl _ _ _ rfl 5 _ 1 1 Tryz.underlying22 zjv rfl dM u5 _ _ _ _ rfl rfl hx zjX rfl (zjj _) lM oM ?_;intro v' w5 hext5 zkj hg5 hat5))
    exact yH07a11
  ·exact yH07a9
def zgV (es:List Edg) (x:Nat) (ls:List Nat):Nat:=ls.foldl (fun m (l:Nat)=>zbO es m (l:Int)) x
theorem zgd (es:List Edg) (x:Nat) (ls:List Nat) (l:Nat):zgV es x (ls++[l])=zbO es (zgV es x ls) (l:Int):=by simp [zgV]
theorem runB_zero (es:List Edg) (ls:List Nat):zgV es 0 ls=0:=by
 induction ls with
 |nil=>rfl
 |cons l r ih=>rw [zgV,iQ,ziV];exact ih
theorem runB_end (h:zgV es x (ls.take k)=0):zgV es x ls=0:=by
 have e:ls=ls.take k++ls.drop k:=(List.take_append_drop k ls).symm;rw [e,zgV,List.foldl_append];show zgV es (zgV es x (ls.take k)) (ls.drop k)=0;rw [h,runB_zero]
section
variable {lo hi n c:Nat} {A:Option Addr} {s:Sys} {t:ByteArray} {w:World}
theorem runB_lt16 {p:Nat} (hf:Few p es)(hp:p<=16) (ls:List Nat):zgV es 1 ls<65536:=by
 rcases zad ls with rfl|⟨u,l,rfl⟩
 ·simp [zgV]
 ·rw [zgd];refine eN (zjR hf _ _) ?_;rw [show (65536:Nat)=2 ^ 16 from rfl];exact eR oM hp
theorem spec_l2Run (h:zQ w lo hi A n s)(hv:zk s=true)(ht:zaY t=true) :
  Calls Tryz.prog 301 #[.agg #[s.al,s.st,.slice A n c],(1:Int),t] w fun e w'=>e=.returned (.int .i64 (zgV s.edges 1 (wl t):Nat))∧Ext w w':=by
 obtain⟨p,E,F,d,o⟩:=zcs hv;have HS:=za (fun W (hW:Ext w W)=>h.ext hW);have G:=zaM ht;have B:=za (fun k r=>zaE ht (k:=k) r);have C:=za o;have g:=za (fun ls=>runB_lt16 o d ls);clear h hv ht o E
 go_enter Tryz.func301,Tryz.ntmps301
 go_upto_region 1 with fail
 generalize U0:w.alloc _=w1 at *;obtain⟨hw1,b1⟩:=gL U0;clear U0;go_wp2_with fail
 go_loopw [1,7] (fun v i wr=>∃ k x:Nat,i=.int .i64 k∧k<=t.size∧v=.int .i64 x∧x<65536∧Hid (x=zgV s.edges 1 ((wl t).take k))∧Ext w1 wr) (fun _ i _=>t.size - (intOf i).toNat)
 case atStart=>exact⟨0,1,rfl,dG _,rfl,oM,rfl,dB _⟩
 case round =>
  obtain⟨k,x,rfl,r,rfl,hx,a,hxr⟩:=hrel
  by_cases hlt:k<t.size
  ·by_cases hx0:x=0
   ·subst hx0;have zka:=za (show zgV s.edges 1 (wl t)=0 from runB_end a.out.symm);go_wp2;go_ret;exact⟨zH (by rw [zka.out]),hw1.trans hxr⟩
   ·have D:((x:Int) != 0)=true:=by simp;try omega
    have m:=B.out k hlt;obtain⟨l,u⟩:∃ l:Nat,Hid ((t[k].toNat:Int) - 97=l):=⟨t[k].toNat - 97,by unfold Hid;omega⟩;have f:=za (show zbO s.edges x (l:Int)=zgV s.edges 1 ((wl t).take (k+1)) by
     rw [eA,zdm hlt,eS,zgd,← a.out]
     congr 1
     have:=u.out;omega)
    have b:=g.out ((wl t).take (k+1));rw [← f.out] at b;have z:=za (fun W (hW:Ext w1 W)=>zfA (c:=c) (set:=x) (l:=(l:Int)) (HS.out W (hw1.trans hW)) C.out d tM);generalize zbO s.edges x (l:Int)=y at *;have c1:∀ W,Ext wr W->∀ j,W.cell? ⟨w.heap.size,j,none⟩=#[Value.int .i64 s.al,.int .i64 s.st,.slice A n c][j]?:=fun W hW=>(b1.ext (hxr.trans hW)).cell;have hww:=dB wr;clear m;go_upto_region 4 with fail
    refine uR (fun X=>Ext wr X) [5] (zv.of [0,1,2,3,4,5,6]) ?_;refine uQ ?_;refine ze fun K hK=>?_;go_simp;refine (zbx t k hlt _).mono ?_;rw [u.out];rintro e w' ⟨rfl,rfl⟩;refine hK.out _ _ hww.drew ?_;refine pT ?_;refine zb fun K hK=>?_;go_simp;refine (z.out _ (hxr.trans hww.drew)).mono (mQ fun w5 q=>?_);refine hK.out _ _ ?_;refine pT ?_;refine uQ ?_;refine zf ?_;have hx6:=hxr.trans (hww.drew.trans q);go_wp2_with fail
    go_roundw
    case rel=>exact⟨k+1,y,gM,oM,rfl,b,f,hx6⟩
    case measure=>simp [intOf];omega
  ·obtain rfl:k=t.size:=oM;have zka:=za (show x=zgV s.edges 1 (wl t) by rw [a.out,dU (by rw [zeu];exact dD _)]);go_wp2;go_ret;exact⟨zH (by rw [zka.out]),hw1.trans hxr⟩
def zfb (s:Sys) (t:ByteArray):Nat:=if (zk s&&inB t s.al.toNat)=true then zgV s.edges 1 (wl t) else 0
theorem zgY (h:zQ w lo hi A n s)(ht:t.size<=9223372036854775807) :
  Calls Tryz.prog 295 #[.agg #[s.al,s.st,.slice A n c],t] w fun e w'=>e=.returned (.int .i64 (zfb s t:Nat))∧Ext w w':=by
 have HS:=za (fun W (hW:Ext w W)=>h.ext hW);have f:=za (fun W (hW:Ext w W)=>zan (c:=c) (h.ext hW));clear h;have hw1:Ext w (w.alloc (.cells #[s.al,s.st,.slice A n c] 38)):=(dB w).alloc _;have b1:=Blk.new w 38 #[s.al,s.st,.slice A n c];cases hv:zk s
 ·have d:=za hv;have hr:=za (show zfb s t=0 by unfold zfb;rw [hv];rfl);clear hv
  go_enter Tryz.func295,Tryz.ntmps295
  go_upto_region 1 with fail
  generalize w.alloc _=w1 at *;have c1:=b1.cell;go_wp2_with (go_at_call 185;refine (f.out _ hw1).mono ?_;rw [d.out];rintro e w2 ⟨rfl,hx2⟩)
  go_ret;exact⟨zH (by rw [hr.out];rfl),hw1.trans hx2⟩
 ·have k:=zF hv;obtain⟨al,a⟩:∃ al:Nat,Hid (s.al=al):=⟨s.al.toNat,by unfold Hid;omega⟩;have b:al<=63:=oH a.out;have hr:=za (show zfb s t=if inB t al=true then zgV s.edges 1 (wl t) else 0 by unfold zfb;rw [hv,a.out];simp);have d:=za hv;cases hi:inB t al
  ·have g:=za hi;rw [hi] at hr;clear hv hi
   go_enter Tryz.func295,Tryz.ntmps295
   go_upto_region 1 with fail
   generalize w.alloc _=w1 at *;have c1:=b1.cell;go_wp2_with (first
    |(go_at_call 185;refine (f.out _ hw1).mono ?_;rw [d.out];rintro e w2 ⟨rfl,hx2⟩;have j:=((b1.ext hx2).cell 0).trans (show #[Value.int .i64 s.al,.int .i64 s.st,.slice A n c][0]?=some (Value.int .i64 (al:Nat)) by rw [a.out];rfl))
    |(go_at_call 146;refine (zai ht b).mono ?_;rw [g.out];rintro e w3 ⟨rfl,rfl⟩))
   go_ret;exact⟨zH (by rw [hr.out];rfl),hw1.trans hx2⟩
  ·have g:=za hi;have i:=za (zaz hi);rw [hi,if_pos rfl] at hr;clear hv hi
   go_enter Tryz.func295,Tryz.ntmps295
   go_upto_region 1 with fail
   generalize w.alloc _=w1 at *;have c1:=b1.cell;go_upto_region 3 with (first
    |(go_at_call 185;refine (f.out _ hw1).mono ?_;rw [d.out];rintro e w2 ⟨rfl,hx2⟩;have j:=((b1.ext hx2).cell 0).trans (show #[Value.int .i64 s.al,.int .i64 s.st,.slice A n c][0]?=some (Value.int .i64 (al:Nat)) by rw [a.out];rfl))
    |(go_at_call 146;refine (zai ht b).mono ?_;rw [g.out];rintro e w3 ⟨rfl,rfl⟩))
   have hw2:=hw1.trans hx2;have l:=(b1.ext hx2).cell;clear j c1;go_wp2_with (go_at_call 301;refine (spec_l2Run (HS.out _ hw2) d.out i.out).mono (mQ fun w4 hx4=>?_))
   go_ret;exact⟨zH (by rw [hr.out]),hw2.trans hx4⟩
theorem zgR (h:zQ w lo hi A n s)(hT:Tab w)(ht:t.size<=9223372036854775807) :
  Calls Tryz.prog 177 #[.agg #[s.al,s.st,.slice A n c],t] w fun e w'=>e=.returned (.int .i64 (zfb s t:Nat))∧Ext w w':=by
 have HS:=za (fun W (hW:Ext w W)=>h.ext hW);have L:=za (fun W (hW:Ext w W)=>hT.ext hW);have r:=za (fun W (hW:Ext w W)=>zaH (c:=c) (h.ext hW));clear h hT;have hw1:Ext w (w.alloc (.cells #[s.al,s.st,.slice A n c] 38)):=(dB w).alloc _;have b1:=Blk.new w 38 #[s.al,s.st,.slice A n c];cases hv:zk s
 ·have o:=za hv;have hr:=za (show zfb s t=0 by unfold zfb;rw [hv];rfl);clear hv
  go_enter Tryz.func177,Tryz.ntmps177
  go_upto_region 1 with fail
  generalize w.alloc _=w1 at *;have c1:=b1.cell;go_wp2_with (go_at_call 65;refine (r.out _ hw1).mono ?_;rw [o.out];rintro e w2 ⟨rfl,hx2⟩)
  go_ret;exact⟨zH (by rw [hr.out];rfl),hw1.trans hx2⟩
 ·have Q:=zF hv;obtain⟨al,a⟩:∃ al:Nat,Hid (s.al=al):=⟨s.al.toNat,by unfold Hid;omega⟩;have b:al<=63:=oH a.out;have hr:=za (show zfb s t=if inB t al=true then zgV s.edges 1 (wl t) else 0 by unfold zfb;rw [hv,a.out];simp);have o:=za hv;cases hi:inB t al
  ·have u:=za (show (decide (t.size<=50000)&&zex t al)=false from hi);rw [hi] at hr;clear hv hi
   go_enter Tryz.func177,Tryz.ntmps177
   go_upto_region 1 with fail
   generalize w.alloc _=w1 at *;have c1:=b1.cell;go_wp2_with (first
    |(go_at_call 65;refine (r.out _ hw1).mono ?_;rw [o.out];rintro e w2 ⟨rfl,hx2⟩;have F:=((b1.ext hx2).cell 0).trans (show #[Value.int .i64 s.al,.int .i64 s.st,.slice A n c][0]?=some (Value.int .i64 (al:Nat)) by rw [a.out];rfl))
    |(go_at_call 85;refine (zba t al _ ht b).mono ?_;rw [u.out];rintro e w3 ⟨rfl,rfl⟩))
   go_ret;exact⟨zH (by rw [hr.out];rfl),hw1.trans hx2⟩
  ·have u:=za (show (decide (t.size<=50000)&&zex t al)=true from hi);have d:=zaz hi;obtain⟨p,S,T,j,B⟩:=zcs hv;have U:=zaM d;have M:=za (fun k G=>zaE d (k:=k) G);have E:=za B;have q:=za (fun ls=>runB_lt16 B j ls);rw [hi,if_pos rfl] at hr;clear hv hi B S d
   go_enter Tryz.func177,Tryz.ntmps177
   go_upto_region 1 with fail
   generalize w.alloc _=w1 at *;have c1:=b1.cell;go_upto_region 3 with (first
    |(go_at_call 65;refine (r.out _ hw1).mono ?_;rw [o.out];rintro e w2 ⟨rfl,hx2⟩;have F:=((b1.ext hx2).cell 0).trans (show #[Value.int .i64 s.al,.int .i64 s.st,.slice A n c][0]?=some (Value.int .i64 (al:Nat)) by rw [a.out];rfl))
    |(go_at_call 85;refine (zba t al _ ht b).mono ?_;rw [u.out];rintro e w3 ⟨rfl,rfl⟩))
   have hw2:=hw1.trans hx2;have O:=(b1.ext hx2).cell;clear F c1;go_wp2_with (go_at_call 154;refine (zdr (HS.out _ hw2) (fun e he=>by have:=E.out e he;omega)).mono ?_;rintro e w4 ⟨V,rfl,_,H,hx4⟩)
   have hw4:=hw2.trans hx4;have J:=za (fun W (hW:Ext w4 W)=>(H.ext hW).at_);clear H O
   go_loopw [6,7] (fun v i wr=>∃ k x:Nat,i=.int .i64 k∧k<=t.size∧v=.int .i64 x∧x<65536∧Hid (x=zgV s.edges 1 ((wl t).take k))∧Ext w4 wr) (fun _ i _=>t.size - (intOf i).toNat)
   case atStart=>exact⟨0,1,rfl,dG _,rfl,oM,rfl,dB _⟩
   case round =>
    obtain⟨k,x,rfl,G,rfl,hx,f,hxr⟩:=hrel
    by_cases hlt:k<t.size
    ·by_cases hx0:x=0
     ·subst hx0;have zka:=za (show zgV s.edges 1 (wl t)=0 from runB_end f.out.symm);go_wp2;go_ret;exact⟨zH (by rw [hr.out,zka.out]),hw4.trans hxr⟩
     ·have R:((x:Int) != 0)=true:=by simp;try omega
      have z:=M.out k hlt;obtain⟨l,C⟩:∃ l:Nat,Hid (ltr t[k].toNat=l∧l<6∧t[k].toNat - 97=l):=⟨t[k].toNat - 97,by unfold Hid ltr;rw [if_neg oM];omega⟩;have D:=C.out.2.1;have m:=za (show zbO s.edges x (l:Int)=zgV s.edges 1 ((wl t).take (k+1)) by
       rw [eA,zdm hlt,eS,zgd,← f.out,C.out.2.2])
      have g:=q.out ((wl t).take (k+1));rw [← m.out] at g;have I:=za (fun W (hW:Ext w4 W)=>impl_step (J.out W hW) (L.out W (hw4.trans hW)) (show x<2 ^ 16 from hx) D E.out j);generalize zbO s.edges x (l:Int)=y at *;clear z;go_wp2_with (first
       |(go_at_call 121;refine (zaJ t k hlt _).mono ?_;rw [C.out.1];rintro e w' ⟨rfl,rfl⟩)
       |(go_at_call 191;refine (I.out _ hxr).mono (mQ fun w6 hx6=>?_)))
      go_roundw
      case rel=>exact⟨k+1,y,gM,oM,rfl,g,m,hxr.trans hx6⟩
      case measure=>simp [intOf];omega
    ·obtain rfl:k=t.size:=oM;have zka:=za (show x=zgV s.edges 1 (wl t) by rw [f.out,dU (by rw [zeu];exact dD _)]);go_wp2;go_ret;exact⟨zH (by rw [hr.out,zka.out]),hw4.trans hxr⟩
theorem zjF (h:zQ w lo hi A n s)(ht:t.size<=9223372036854775807) :
  Calls Tryz.prog 263 #[.agg #[s.al,s.st,.slice A n c],t] w fun e w'=>e=.returned (.bool (zfb s t != 0))∧Ext w w':=by
 have HS:=za (fun W (hW:Ext w W)=>zgY (c:=c) (h.ext hW) ht);have hr:=za (show (((zfb s t:Nat):Int) != 0)=(zfb s t != 0) by rw [gX];simp;try omega);generalize zfb s t=y at *
 go_enter Tryz.func263,Tryz.ntmps263
 go_wp2_with (go_at_call 295;refine (HS.out _ ((dB _).alloc _)).mono (mQ fun w2 hx2=>?_))
 go_ret;exact⟨zm (by rw [hr.out]),((dB _).alloc _).trans hx2⟩
theorem zjt (h:zQ w lo hi A n s)(hT:Tab w)(ht:t.size<=9223372036854775807) :
  Calls Tryz.prog 87 #[.agg #[s.al,s.st,.slice A n c],t] w fun e w'=>e=.returned (.bool (zfb s t != 0))∧Ext w w':=by
 have HS:=za (fun W (hW:Ext w W)=>zgR (c:=c) (h.ext hW) (hT.ext hW) ht);have hr:=za (show (((zfb s t:Nat):Int) != 0)=(zfb s t != 0) by rw [gX];simp;try omega);generalize zfb s t=y at *
 go_enter Tryz.func87,Tryz.ntmps87
 go_wp2_with (go_at_call 177;refine (HS.out _ ((dB _).alloc _)).mono (mQ fun w2 hx2=>?_))
 go_ret;exact⟨zm (by rw [hr.out]),((dB _).alloc _).trans hx2⟩
end
theorem zcD (s:ByteArray) (a:Nat):(zac s a).size<=s.size:=by
 have h:=zhG s a s.size;rw [dU sM] at h;have e:(zac s a).size=(zjh (zfT a s.data.toList)).length:=by unfold zac;rw [strOfNums_size]
 rw [e,zjh,List.length_map];exact h
def topB (ss:List Sys) (t:ByteArray):Bool:=zy ss&&(inB t (zC ss)&&ss.all fun s=>zfb s (zac t s.al.toNat) != 0)
section
variable {lo hi n c:Nat} {A:Option Addr} {ss:List Sys} {t:ByteArray} {w:World}
theorem all_next {f:Sys->Bool}  {s:Sys}(h:ss[k]?=some s)(ha:(ss.take k).all f=true)(hf:f s=true):(ss.take (k+1)).all f=true:=by
 rw [eA,h,List.all_append,ha];simp [hf]
theorem all_not {f:Sys->Bool}  {s:Sys}(h:ss[k]?=some s)(hf:f s=false):ss.all f=false:=by
 rw [List.all_eq_false];exact⟨s,dC h,by simp [hf]⟩
theorem yH07a7 {P:Prop}(h:P:=by
 cases hb:(zfb s t' != 0)
 ·have hff:=za (hF.out hb);clear hF hN;go_wp2;go_ret;exact⟨zm (by rw [hr.out,hff.out]),hxr.trans hx6⟩
 ·have hnn:=za (hN.out hb);clear hF hN;go_wp2_with fail
  go_roundw
  case rel=>exact⟨k+1,oM,gM,hnn,hxr.trans hx6⟩
  case measure=>simp [intOf];omega
 ):P:=h
theorem yH07a10 {P:Prop}(h:P:=by
 obtain rfl:k=n:=oM;have zka:=za (show (ss.all fun s=>zfb s (zac t s.al.toNat) != 0)=true by have:=hall.out;rwa [List.take_of_length_le (oH hL.out)] at this);go_wp2;go_ret;exact⟨zm (by rw [hr.out,zka.out]),hxr⟩
 ):P:=h
theorem spec_TraceOfParts (h:zdE w lo hi A n ss)(ht:t.size<=9223372036854775807) :
  Calls Tryz.prog 187 #[.slice A n c,t] w fun e w'=>e=.returned (.bool (topB ss t))∧Ext w w':=by
 have M:=h.len;have hL:=za h.1;have HS:=za (fun W (hW:Ext w W)=>h.ext hW);clear h;cases hp:zy ss
 ·have a:=za (show zaI ss = -1 by unfold zaI;rw [hp];rfl);have hr:=za (show topB ss t=false by unfold topB;rw [hp];rfl);clear hp
  go_enter Tryz.func187,Tryz.ntmps187
  go_wp2_with (go_at_call 206;refine (zR (HS.out _ (dB _))).mono ?_;rw [a.out];rintro e w1 ⟨rfl,hx⟩)
  go_ret;exact⟨zm (by rw [hr.out]),hx⟩
 ·have G:=za (zaf hp).2;have F:=zgn G.out;have a:=za (show zaI ss=(zC ss:Int) by unfold zaI;rw [hp];rfl);have hr:=za (show topB ss t=(inB t (zC ss)&&ss.all fun s=>zfb s (zac t s.al.toNat) != 0) by unfold topB;rw [hp];rfl);clear hp;generalize zC ss=u at *;cases hi:inB t u
  ·have r:=za hi;rw [hi] at hr;clear hi
   go_enter Tryz.func187,Tryz.ntmps187
   go_wp2_with (first
    |(go_at_call 206;refine (zR (HS.out _ (dB _))).mono ?_;rw [a.out];rintro e w1 ⟨rfl,hx⟩)
    |(go_at_call 146;refine (zai ht F).mono ?_;rw [r.out];rintro e w3 ⟨rfl,rfl⟩))
   go_ret;exact⟨zm (by rw [hr.out];rfl),hx⟩
  ·have r:=za hi;have y:=za (zaz hi);rw [hi,jE] at hr;clear hi
   go_enter Tryz.func187,Tryz.ntmps187
   go_wp2_with (first
    |(go_at_call 206;refine (zR (HS.out _ (dB _))).mono ?_;rw [a.out];rintro e w1 ⟨rfl,hx⟩)
    |(go_at_call 146;refine (zai ht F).mono ?_;rw [r.out];rintro e w3 ⟨rfl,rfl⟩))
   go_loopw [6] (fun i wr=>∃ k:Nat,k<=n∧i=.int .i64 k∧Hid ((ss.take k).all (fun s=>zfb s (zac t s.al.toNat) != 0)=true)∧Ext w wr) (fun i _=>n - (intOf i).toNat)
   case atStart=>exact⟨0,dG _,rfl,rfl,hx⟩
   case round =>
    clear hx;obtain⟨k,L,rfl,hall,hxr⟩:=hrel
    by_cases hlt:k<n
    ·obtain⟨b,o,s,B,q,d,rfl,_,_,hs,E,c1,I,m⟩:=(HS.out wr hxr).sys hlt;obtain⟨v,x⟩:=zF (G.out s (dC hs.out));obtain⟨al,j⟩:∃ al:Nat,Hid (s.al=al):=⟨s.al.toNat,by unfold Hid;omega⟩;have l:al<=63:=oH j.out;have p:s.al.toNat=al:=oH j.out;have g:=eB (zcD t al) ht;have H:=za (fun W=>zaK (w:=W) y.out l);have D:=za (fun W (hW:Ext wr W)=>zjF (c:=d) (m.ext hW) g);rw [j.out] at E D;have J:∀ W,Ext wr W->W.cell? ⟨b,o+k*3,none⟩=some (.int .i64 al):=fun W hW=>hW.aa E;have d1:∀ W,Ext wr W->W.cell? ⟨b,o+k*3+1,none⟩=some (.int .i64 s.st):=fun W hW=>hW.aa c1;have d2:∀ W,Ext wr W->W.cell? ⟨b,o+k*3+2,none⟩=some (.slice B q d):=fun W hW=>hW.aa I;have hN:=za (fun hb=>all_next (f:=fun s=>zfb s (zac t s.al.toNat) != 0) hs.out hall.out hb);have hF:=za (fun hb=>all_not (f:=fun s=>zfb s (zac t s.al.toNat) != 0) hs.out hb);simp only [p] at hN hF;clear p g m v x hall;generalize zac t al=t' at *;have hww:=dB wr;go_upto_region 7 with fail
     refine uR (fun X=>Ext wr X) [11] (zv.of [0,1,2,3,4,5,6,7,8,9,10,11,12]) ?_;refine uQ ?_;refine ze fun K hK=>?_;go_simp;refine (H.out _).mono (mQ fun w' z=>?_);have hx2:=hww.drew.trans z;refine hK.out _ _ hx2 ?_;refine pT ?_;refine zb fun K hK=>?_;go_simp;refine (D.out _ hx2).mono (mQ fun w5 C=>?_);refine hK.out _ _ ?_;refine pT ?_;refine uQ ?_;refine zf ?_;have hx6:=hx2.trans C;exact yH07a7
    ·exact yH07a10
theorem impl_TraceOfParts (h:zdE w lo hi A n ss)(hT:Tab w)(ht:t.size<=9223372036854775807) :
  Calls Tryz.prog 31 #[.slice A n c,t] w fun e w'=>e=.returned (.bool (topB ss t))∧Ext w w':=by
 have R:=h.len;have hL:=za h.1;have HS:=za (fun W (hW:Ext w W)=>h.ext hW);have J:=za (fun W (hW:Ext w W)=>hT.ext hW);clear h hT;cases hp:zy ss
 ·have x:=za hp;have hr:=za (show topB ss t=false by unfold topB;rw [hp];rfl);clear hp
  go_enter Tryz.func31,Tryz.ntmps31
  go_wp2_with (go_at_call 78;refine (zak (HS.out _ (dB _))).mono ?_;rw [x.out];rintro e w1 ⟨rfl,hx⟩)
  go_ret;exact⟨zm (by rw [hr.out]),hx⟩
 ·have x:=za hp;have H:=za (zaf hp).2;have G:=zgn H.out;have l:=za (show zaI ss=(zC ss:Int) by unfold zaI;rw [hp];rfl);have hr:=za (show topB ss t=(inB t (zC ss)&&ss.all fun s=>zfb s (zac t s.al.toNat) != 0) by unfold topB;rw [hp];rfl);clear hp;generalize zC ss=u at *;cases hi:inB t u
  ·have y:=za (show (decide (t.size<=50000)&&zex t u)=false from hi);rw [hi] at hr;clear hi
   go_enter Tryz.func31,Tryz.ntmps31
   go_wp2_with (first
    |(go_at_call 78;refine (zak (HS.out _ (dB _))).mono ?_;rw [x.out];rintro e w1 ⟨rfl,a⟩)
    |(go_at_call 86;refine (zbq (HS.out _ a)).mono ?_;rw [l.out];rintro e w2 ⟨rfl,hx⟩)
    |(go_at_call 85;refine (zba t u _ ht G).mono ?_;rw [y.out];rintro e w3 ⟨rfl,rfl⟩))
   go_ret;exact⟨zm (by rw [hr.out];rfl),a.trans hx⟩
  ·have y:=za (show (decide (t.size<=50000)&&zex t u)=true from hi);have D:=za (zaz hi);rw [hi,jE] at hr;clear hi
   go_enter Tryz.func31,Tryz.ntmps31
   go_wp2_with (first
    |(go_at_call 78;refine (zak (HS.out _ (dB _))).mono ?_;rw [x.out];rintro e w1 ⟨rfl,a⟩)
    |(go_at_call 86;refine (zbq (HS.out _ a)).mono ?_;rw [l.out];rintro e w2 ⟨rfl,hx⟩)
    |(go_at_call 85;refine (zba t u _ ht G).mono ?_;rw [y.out];rintro e w3 ⟨rfl,rfl⟩))
   go_loopw [6,19] (fun _ i wr=>∃ k:Nat,k<=n∧i=.int .i64 k∧Hid ((ss.take k).all (fun s=>zfb s (zac t s.al.toNat) != 0)=true)∧Ext w wr) (fun _ i _=>n - (intOf i).toNat)
   case atStart=>exact⟨0,dG _,rfl,rfl,a.trans hx⟩
   case round =>
    clear hx a;obtain⟨k,Q,rfl,hall,hxr⟩:=hrel
    by_cases hlt:k<n
    ·obtain⟨b,o,s,B,q,d,rfl,_,_,hs,M,c1,O,p⟩:=(HS.out wr hxr).sys hlt;obtain⟨z,C⟩:=zF (H.out s (dC hs.out));obtain⟨al,j⟩:∃ al:Nat,Hid (s.al=al):=⟨s.al.toNat,by unfold Hid;omega⟩;have m:al<=63:=oH j.out;have r:s.al.toNat=al:=oH j.out;have g:=eB (zcD t al) ht;have I:=za (fun W=>zbF (w:=W) D.out m);have F:=za (fun W (hW:Ext wr W)=>zjt (c:=d) (p.ext hW) (J.out W (hxr.trans hW)) g);rw [j.out] at M F;have hN:=za (fun hb=>all_next (f:=fun s=>zfb s (zac t s.al.toNat) != 0) hs.out hall.out hb);have hF:=za (fun hb=>all_not (f:=fun s=>zfb s (zac t s.al.toNat) != 0) hs.out hb);simp only [r] at hN hF;clear r g p z C hall;generalize zac t al=t' at *;go_upto_region 6 with fail
     generalize U0:wr.alloc _=w5 at *;obtain⟨v,L⟩:=gL U0;clear U0;have c5:=L.cells;have hww:=dB w5;refine uR (fun X=>Ext w5 X) [5] (zv.of [0,1,2,3,4,5,6]) ?_;refine uQ ?_;refine ze fun K hK=>?_;go_simp;refine (I.out _).mono (mQ fun w' a=>?_);have hx2:=hww.drew.trans a;refine hK.out _ _ hx2 ?_;refine pT ?_;refine zb fun K hK=>?_;go_simp;refine (F.out _ (v.trans hx2)).mono (mQ fun w6 E=>?_);refine hK.out _ _ ?_;refine pT ?_;refine uQ ?_;refine zf ?_;have hx6:=v.trans (hx2.trans E);exact yH07a7
    ·exact yH07a10
end
def zfJ (hd:Bool) (a:Aut) (s:ByteArray):Bool:=if hd then zj a&&s.toList.isEmpty else autNone a&&zaY s
def zaS (p:Aut) (q:Nat) (ls:List Nat):Nat:=ls.foldl (aGo p) q
theorem zbw (p:Aut) (q:Nat) (ls:List Nat) (l:Nat):zaS p q (ls++[l])=aGo p (zaS p q ls) l:=by simp [zaS]
theorem runA_ltF {N:Nat} (hv:Fit N p) (h:∀ l∈ls,l<6) (hq:q<p.next.length):zaS p q ls<p.next.length:=by
 induction ls generalizing q with
 |nil=>exact hq
 |cons l r ih=>exact ih (fun x hx=>h x (eT _ hx)) (aGo_ltF hv hq (h l iG))
theorem zdG (hv:zj p=true) (h:∀ l∈ls,l<6) (hq:q<p.next.length):zaS p q ls<p.next.length:=runA_ltF (fit_of hv) h hq
theorem runA_filter (p:Aut) (ls:List Nat) (q:Nat):zaS p q (ls.filter fun l=>p.al.toNat.testBit l)=zaS p q ls:=by
 induction ls generalizing q with
 |nil=>rfl
 |cons l r ih =>
  rw [List.filter_cons];show _=zaS p (aGo p q l) r;cases hb:p.al.toNat.testBit l
  ·have e:aGo p q l=q:=by unfold aGo;rw [hb];rfl
   rw [e];simpa using ih q
  ·simp only [if_true];exact ih (aGo p q l)
theorem ziS (s:ByteArray) (a:Nat):(zac s a).data.toList=zfT a s.data.toList:=by
 unfold zac strOfNums zjh;simp only [List.map_map];refine (List.map_congr_left (g:=id) fun b _=>?_).trans (List.map_id _);simp
theorem zjW (h:zaY s=true) (a:Nat):wl (zac s a)=(wl s).filter fun l=>a.testBit l:=by
 unfold wl;rw [ziS];unfold zfT;have hb:∀ b∈s.data.toList,97<=b.toNat∧b.toNat<=102:=by
  intro b hb;obtain⟨i,f⟩:=eQ hb;have c:i<s.size:=by have:=(List.getElem?_eq_some_iff.1 f).1;simpa using this
  rw [zco s i c] at f;obtain rfl:=Option.some.inj f;exact zaE h c
 generalize s.data.toList=L at hb;clear h
 induction L with
 |nil=>rfl
 |cons b r d =>
  have g:=hb b iG;have d:=d fun x hx=>hb x (eT _ hx);have e:hasB a (ltr b.toNat)=a.testBit (b.toNat - 97):=by
   unfold hasB ltr;rw [if_neg oM,decide_eq_true oM,jE]
   congr 1
   omega
  rw [List.filter_cons,gJ,List.filter_cons,e];cases a.testBit (b.toNat - 97)
  ·simpa using d
  ·simp only [if_true,gJ];rw [d]
theorem zbR (h:zaY s=true) (a:Nat):inB (zac s a) a=true:=by
 unfold inB zex;rw [ziS,dH,decide_eq_true_eq];refine⟨eB (zcD s a) (zaM h),?_⟩;rw [eW];intro b hb;exact (List.mem_filter.1 hb).2
def breakB (p:Aut) (t:ByteArray):Bool:=zj p&&(zaY t&&!zcG p (zaS p 0 (wl t)))
section
variable {lo hi m d m' d':Nat} {B B':Option Addr} {p:Aut} {t:ByteArray} {w:World}
theorem spec_l3Run (h:zD w lo hi B m B' m' p)(hv:zj p=true)(ht:zaY t=true) :
  Calls Tryz.prog 264 #[.agg #[p.al,.slice B m d,.slice B' m' d'],(0:Int),t] w fun e w'=>e=.returned (.int .i64 (zaS p 0 (wl t):Nat))∧Ext w w':=by
 have HS:=za (fun W (hW:Ext w W)=>h.ext hW);have E:=zaM ht;have z:=za (fun k s=>zaE ht (k:=k) s);have D:=(zl hv).2.1;have C:=za hv;have c:=za (fun k=>zdG hv (ls:=(wl t).take k) (fun l b=>ziz ht l (gG b)) (q:=0) oM);clear h hv ht
 go_enter Tryz.func264,Tryz.ntmps264
 go_upto_region 1 with fail
 generalize U0:w.alloc _=w1 at *;obtain⟨hw1,b1⟩:=gL U0;clear U0;go_wp2_with fail
 go_loopw [1,7] (fun v i wr=>∃ k x:Nat,i=.int .i64 k∧k<=t.size∧v=.int .i64 x∧Hid (x=zaS p 0 ((wl t).take k))∧Ext w1 wr) (fun _ i _=>t.size - (intOf i).toNat)
 case atStart=>exact⟨0,0,rfl,dG _,rfl,rfl,dB _⟩
 case round =>
  obtain⟨k,x,rfl,s,rfl,a,hxr⟩:=hrel
  by_cases hlt:k<t.size
  ·have f:=z.out k hlt;obtain⟨l,b⟩:∃ l:Nat,Hid ((t[k].toNat:Int) - 97=l):=⟨t[k].toNat - 97,by unfold Hid;omega⟩;have g:l<6:=oH b.out;have n:=za (show aGo p x l=zaS p 0 ((wl t).take (k+1)) by
    rw [eA,zdm hlt,eS,zbw,← a.out]
    congr 1
    have:=b.out;omega)
   have r:x<p.next.length:=by rw [a.out];exact c.out k
   have u:=za (fun W (hW:Ext w1 W)=>zdW (d:=d) (d':=d') (HS.out W (hw1.trans hW)) C.out r g);generalize aGo p x l=y at *;have c1:∀ W,Ext wr W->∀ j,W.cell? ⟨w.heap.size,j,none⟩=#[Value.int .i64 p.al,.slice B m d,.slice B' m' d'][j]?:=fun W hW=>(b1.ext (hxr.trans hW)).cell;have hww:=dB wr;clear f;go_upto_region 4 with fail
   refine uR (fun X=>Ext wr X) [5] (zv.of [0,1,2,3,4,5,6]) ?_;refine uQ ?_;refine ze fun K hK=>?_;go_simp;refine (zbx t k hlt _).mono ?_;rw [b.out];rintro e w' ⟨rfl,rfl⟩;refine hK.out _ _ hww.drew ?_;refine pT ?_;refine zb fun K hK=>?_;go_simp;refine (u.out _ (hxr.trans hww.drew)).mono (mQ fun w5 o=>?_);refine hK.out _ _ ?_;refine pT ?_;refine uQ ?_;refine zf ?_;have hx6:=hxr.trans (hww.drew.trans o);go_wp2_with fail
   go_roundw
   case rel=>exact⟨k+1,y,gM,oM,rfl,n,hx6⟩
   case measure=>simp [intOf];omega
  ·obtain rfl:k=t.size:=oM;have zka:=za (show x=zaS p 0 (wl t) by rw [a.out,dU (by rw [zeu];exact dD _)]);go_wp2;go_ret;exact⟨zH (by rw [zka.out]),hw1.trans hxr⟩
end
section
variable {lo hi m d m' d':Nat} {B B':Option Addr} {p:Aut} {t:ByteArray} {w:World}
theorem zhB (h:zD w lo hi B m B' m' p)(hv:zj p=true)(ht:inB t p.al.toNat=true) :
  Calls Tryz.prog 178 #[.agg #[p.al,.slice B m d,.slice B' m' d'],t] w fun e w'=>e=.returned (.int .i64 (zaS p 0 (wl t):Nat))∧Ext w w':=by
 have L:=za (fun W (hW:Ext w W)=>zcM (d:=d) (d':=d') (h.ext hW) hv);have J:=za (fun W (hW:Ext w W)=>zA _ _ _ _ d _ _ d' _ _ (h.ext hW));have a:=zaz ht;have aa:=zaM a;have S:=za (fun k M=>zaE a (k:=k) M);have Z:=(zl hv).2.1;obtain⟨D,E⟩:=(zl hv).1;obtain⟨al,b⟩:∃ al:Nat,Hid (p.al=al):=⟨p.al.toNat,by unfold Hid;omega⟩;have n:al<=63:=oH b.out;have u:p.al.toNat=al:=oH b.out;rw [u] at ht;have T:=za (show (decide (t.size<=50000)&&zex t al)=true from ht);have U:=za hv;have C:=za (fun k=>zdG hv (ls:=(wl t).take k) (fun l r=>ziz a l (gG r)) (q:=0) oM);clear h hv ht u a;rw [b.out] at L J ⊢;clear D E
 go_enter Tryz.func178,Tryz.ntmps178
 go_upto_region 1 with fail
 generalize U0:w.alloc _=w1 at *;obtain⟨hw1,b1⟩:=gL U0;clear U0;have c1:=b1.cell;go_wp2_with (first
  |(go_at_call 25;refine (J.out _ hw1).mono ?_;rw [U.out];rintro e w2 ⟨rfl,hx2⟩;have hw2:=hw1.trans hx2;have V:=(b1.ext hx2).cell)
  |(go_at_call 85;refine (zba t al _ oM n).mono ?_;rw [T.out];rintro e w3 ⟨rfl,rfl⟩)
  |(go_at_call 119;refine (L.out _ hw2).mono ?_;rintro e w4 ⟨TA,tc,rfl,j,hx4⟩))
 have hw4:=hw2.trans hx4;have R:=za (fun W (hW:Ext w4 W)=>(j.ext hW).at_);clear j c1 V
 go_loopw [6,7,22] (fun v _ i wr=>∃ k x:Nat,i=.int .i64 k∧k<=t.size∧v=.int .i64 x∧Hid (x=zaS p 0 ((wl t).take k))∧Ext w4 wr) (fun _ _ i _=>t.size - (intOf i).toNat)
 case atStart=>exact⟨0,0,rfl,dG _,rfl,rfl,dB _⟩
 case round =>
  obtain⟨k,x,rfl,M,rfl,f,hxr⟩:=hrel
  by_cases hlt:k<t.size
  ·have G:=S.out k hlt;obtain⟨l,r⟩:∃ l:Nat,Hid (ltr t[k].toNat=l∧l<6∧t[k].toNat - 97=l):=⟨t[k].toNat - 97,by unfold Hid ltr;rw [if_neg oM];omega⟩;have s:=r.out.2.1;have O:((l:Nat):Int)<6:=oM;have I:=za (show aGo p x l=zaS p 0 ((wl t).take (k+1)) by
    rw [eA,zdm hlt,eS,zbw,← f.out,r.out.2.2])
   have z:x<p.next.length:=by rw [f.out];exact C.out k
   obtain⟨ab,Y,c⟩:=R.out wr hxr;have Q:=za (fun W (hW:Ext wr W)=>(c.ext hW).at_ z s);obtain⟨g,o,F,H⟩:=c.at_ z s;subst F;generalize aGo p x l=y at *;have d1:∀ W,Ext wr W->W.cell? ⟨g,o+x*6+l,none⟩=some (.int .i64 (y:Nat)):=fun W hW=>hW.aa H;clear G c Q;generalize p.next.length=N at *;go_upto_region 8 with fail
   have hww:=dB wr;refine uR (fun X=>Ext wr X) [] (zv.of [0,1,2,3,5,4,6,7,8]) ?_;refine uQ ?_;refine ze fun K hK=>?_;go_simp;refine (zaJ t k hlt _).mono ?_;rw [r.out.1];rintro e w' ⟨rfl,rfl⟩;refine hK.out _ _ hww.drew ?_;refine pT ?_;refine uQ ?_;refine zf ?_;have hx6:=hxr.trans hww.drew;go_wp2_with fail
   go_roundw
   case rel=>exact⟨k+1,y,gM,oM,rfl,I,hx6⟩
   case measure=>simp [intOf];omega
  ·obtain rfl:k=t.size:=oM;have zka:=za (show x=zaS p 0 (wl t) by rw [f.out,dU (by rw [zeu];exact dD _)]);go_wp2;go_ret;exact⟨zH (by rw [zka.out]),hw4.trans hxr⟩
theorem zgQ (h:zD w lo hi B m B' m' p)(hv:zj p=true)(ht:inB t p.al.toNat=true) :
  Calls Tryz.prog 89 #[.agg #[p.al,.slice B m d,.slice B' m' d'],t] w fun e w'=>e=.returned (.bool (zcG p (zaS p 0 (wl t))))∧Ext w w':=by
 have j:=za (fun W (hW:Ext w W)=>zhB (d:=d) (d':=d') (h.ext hW) hv ht);have i:=za (fun W (hW:Ext w W) q g=>zey (q:=q) (h.ext hW) g);have g:=zdG hv (ziz (zaz ht)) (q:=0) (by have:=(zl hv).2.1;omega);have c:=(zl hv).2.2.1;have f:=h.n2;have b:zaS p 0 (wl t)<m':=oM;clear h hv ht c;generalize hqe:zaS p 0 (wl t)=q at *;clear hqe g f;obtain⟨k,a,_⟩:=i.out w (dB w) q b;have n:∀ W,Ext w W->W.cell? (k.add q)=some (.bool (zcG p q)):=by
  intro W hW;obtain⟨l,e,r⟩:=i.out W hW q b;rw [a] at e;obtain rfl:=Option.some.inj e;exact r
 subst a
 go_enter Tryz.func89,Tryz.ntmps89
 go_upto_region 1 with fail
 generalize U0:w.alloc _=w1 at *;obtain⟨hw1,b1⟩:=gL U0;clear U0;have c1:=b1.cell;go_wp2_with (go_at_call 178;refine (j.out _ hw1).mono (mQ fun w2 hx2=>?_);have s:=(b1.ext hx2).cell;have o:=n _ (hw1.trans hx2))
 go_ret;exact⟨zm (by rfl),hw1.trans hx2⟩
theorem impl_BreaksProperty (h:zD w lo hi B m B' m' p)(ht:t.size<=9223372036854775807) :
  Calls Tryz.prog 32 #[.agg #[p.al,.slice B m d,.slice B' m' d'],t] w fun e w'=>e=.returned (.bool (breakB p t))∧Ext w w':=by
 have j:=za (fun W (hW:Ext w W)=>zA _ _ _ _ d _ _ d' _ _ (h.ext hW));have hr:=za (show breakB p t=(zj p&&(zaY t&&!zcG p (zaS p 0 (wl t)))) from rfl);have hw1:Ext w (w.alloc (.cells #[p.al,.slice B m d,.slice B' m' d'] 27)):=(dB w).alloc _;have b1:=Blk.new w 27 #[p.al,.slice B m d,.slice B' m' d'];cases h1:zj p
 ·have a:=za h1;clear h1
  go_enter Tryz.func32,Tryz.ntmps32
  go_upto_region 1 with fail
  generalize w.alloc _=w1 at *;have c1:=b1.cells;have hww:=dB w1;refine uR (fun X=>Ext w1 X) [12] (zv.of [0,1,2,3,4,5,6,7,8,9,10,11,12,13,14,15]) ?_;refine uQ ?_;refine ze fun K hK=>?_;go_simp;refine (j.out _ (hw1.trans hww.drew)).mono ?_;rw [a.out];rintro e w2 ⟨rfl,hx2⟩;have hx3:=hww.drew.trans hx2;refine hK.out _ _ hx3 ?_;refine pT ?_;refine uQ ?_;refine zf ?_;go_wp2_with fail
  go_ret;exact⟨zm (by rw [hr.out,a.out];rfl),hw1.trans hx3⟩
 ·cases h2:zaY t
  ·have a:=za h1;have f:=za h2;clear h1 h2
   go_enter Tryz.func32,Tryz.ntmps32
   go_upto_region 1 with fail
   generalize w.alloc _=w1 at *;have c1:=b1.cells;have hww:=dB w1;refine uR (fun X=>Ext w1 X) [12] (zv.of [0,1,2,3,4,5,6,7,8,9,10,11,12,13,14,15]) ?_;refine uQ ?_;refine ze fun K hK=>?_;go_simp;refine (j.out _ (hw1.trans hww.drew)).mono ?_;rw [a.out];rintro e w2 ⟨rfl,hx2⟩;have hx3:=hww.drew.trans hx2;refine hK.out _ _ hx3 ?_;refine pT ?_;refine uQ ?_;refine ze fun K hK=>?_;go_simp;refine (zfh _ _ ht).mono ?_;rw [f.out];rintro e w3 ⟨rfl,rfl⟩;refine hK.out _ _ hx3 ?_;refine pT ?_;refine uQ ?_;refine zf ?_;go_wp2_with fail
   go_ret;exact⟨zm (by rw [hr.out,a.out,f.out];rfl),hw1.trans hx3⟩
  ·obtain⟨l,n⟩:=(zl h1).1;obtain⟨al,b⟩:∃ al:Nat,Hid (p.al=al):=⟨p.al.toNat,by unfold Hid;omega⟩;have g:al<=63:=oH b.out;have i:=za (show p.al.toNat=al by have:=b.out;omega);have q:=za (fun W=>zbF (w:=W) h2 g);have k:=za (fun W (hW:Ext w W)=>zgQ (d:=d) (d':=d') (t:=zac t al) (h.ext hW) h1 (by rw [i.out];exact zbR h2 al));have o:=za (show zaS p 0 (wl (zac t al))=zaS p 0 (wl t) by rw [zjW h2,← i.out,runA_filter]);rw [o.out] at k;have a:=za h1;have f:=za h2;clear h h1 h2 l n;rw [b.out] at j k hw1 b1 ⊢;generalize zac t al=t' at *
   go_enter Tryz.func32,Tryz.ntmps32
   go_upto_region 1 with fail
   generalize w.alloc _=w1 at *;have c1:=b1.cells;have hww:=dB w1;refine uR (fun X=>Ext w1 X) [12] (zv.of [0,1,2,3,4,5,6,7,8,9,10,11,12,13,14,15]) ?_;refine uQ ?_;refine ze fun K hK=>?_;go_simp;refine (j.out _ (hw1.trans hww.drew)).mono ?_;rw [a.out];rintro e w2 ⟨rfl,hx2⟩;have hx3:=hww.drew.trans hx2;refine hK.out _ _ hx3 ?_;refine pT ?_;refine uQ ?_;refine ze fun K hK=>?_;go_simp;refine (zfh _ _ ht).mono ?_;rw [f.out];rintro e w3 ⟨rfl,rfl⟩;refine hK.out _ _ hx3 ?_;refine pT ?_;refine uQ ?_;refine ze fun K hK=>?_;go_simp;refine (q.out _).mono (mQ fun w4 hx4=>?_);have c:=hx3.trans hx4;refine hK.out _ _ c ?_;refine pT ?_;refine uQ ?_;refine zb fun K hK=>?_;go_simp;refine (k.out _ (hw1.trans c)).mono (mQ fun w6 hx6=>?_);refine hK.out _ _ ?_;refine pT ?_;refine uQ ?_;refine zf ?_;go_wp2_with fail
   go_ret;exact⟨zm (by rw [hr.out,a.out,f.out];rfl),hw1.trans (c.trans hx6)⟩
end
theorem iface_neg (s t:Sys) (p:Aut):iface s p t<0↔(zk s&&(zj p&&zk t))=false:=by
 unfold iface;cases h:(zk s&&(zj p&&zk t))
 ·simp
 ·simp
theorem pnx_mod (ms:List Mem) (x l:Nat):pnx ms x l=pnx ms (x % zI ms) l:=by
 induction ms generalizing x with
 |nil=>rfl
 |cons m r ih =>
  rw [zdT];unfold pnx;have e1:x % (m.1*zI r) / zI r % m.1=x / zI r % m.1:=by
   rw [fY,jV,Nat.mod_mod]
  have e2:pnx r (x % (m.1*zI r)) l=pnx r x l:=by
   rw [ih (x % (m.1*zI r)),Nat.mod_mul_left_mod,← ih x]
  rw [e1,e2]
theorem goes_lt {ms:List Mem}(hm:∀ m∈ms,zev m) (hv:∀ l∈v,l<6) (h:zbB (pnx ms) [0] v x):x<zI ms:=by
 rcases zad v with rfl|⟨u,l,rfl⟩
 ·have:=h.ah;have a:=zgb hm;simp at this;omega
 ·obtain⟨n,_,hx⟩:=h.inv;exact ziQ hm (hv l sM) x hx
theorem mem_lt {m:Mem}(hm:zev m) (hv:∀ l∈v,l<6) (h:zbB m.2 [0] v q):q<m.1:=by
 have a:∀ n (v:List Nat),v.length=n->(∀ l∈v,l<6)->∀ q,zbB m.2 [0] v q->q<m.1:=by
  intro n
  induction n with
  |zero =>
   intro v hl _ q h;obtain rfl:=eD hl;have:=h.ah;have:=hm.1;simp at *;omega
  |succ n ih =>
   intro v hl hv q h;rcases zad v with rfl|⟨u,l,rfl⟩
   ·simp at hl
   ·obtain⟨b,c,d⟩:=h.inv;exact hm.2 b l (ih u (by simpa using hl) (fun k hk=>hv k (by simp [hk])) b c) (hv l sM) q d
 exact a _ v rfl hv q h
theorem zfO {m:Mem} {r:List Mem}(hm:zev m)(hr:∀ m∈r,zev m):∀ (n:Nat) (v:List Nat),v.length=n->(∀ l∈v,l<6)->∀ x,zbB (pnx (m :: r)) [0] v x↔∃ q y,x=q*zI r+y∧zbB m.2 [0] v q∧zbB (pnx r) [0] v y:=by
 intro n
 induction n with
 |zero =>
  intro v hl _ x;obtain rfl:=eD hl;constructor
  ·intro h;have:=h.ah;simp at this;subst this;exact⟨0,0,sM,.nil sM,.nil sM⟩
  ·rintro ⟨q,y,rfl,b,a⟩;have b:=b.ah;have a:=a.ah;simp at b a;subst b;subst a;exact .nil sM
 |succ n j =>
  intro v hl hv x;rcases zad v with rfl|⟨u,l,rfl⟩
  ·simp at hl
  have p:∀ k∈u,k<6:=fun k hk=>hv k (by simp [hk]);have B:l<6:=hv l sM;have j:=j u (by simpa using hl) p;have E:=zgb hr;have c:∀ q y,zbB m.2 [0] u q->zbB (pnx r) [0] u y->pnx (m :: r) (q*zI r+y) l=(m.2 q l).flatMap fun d=>(pnx r y l).map fun f=>d*zI r+f:=by
   intro q y b a;have C:=mem_lt hm p b;have hy:=goes_lt hr p a;show (m.2 ((q*zI r+y) / zI r % m.1) l).flatMap (fun d=>(pnx r (q*zI r+y) l).map fun f=>d*zI r+f)=_;have e1:(q*zI r+y) / zI r % m.1=q:=by
    rw [fY,Nat.mul_add_div oM,jK hy,Nat.add_zero,iN C]
   have e2:pnx r (q*zI r+y) l=pnx r y l:=by
    rw [pnx_mod r (q*zI r+y),fY,Nat.mul_add_mod,← pnx_mod]
   rw [e1,e2]
  constructor
  ·intro h;obtain⟨D,b,a⟩:=h.inv;obtain⟨q,y,rfl,g,i⟩:=(j D).1 b;rw [c q y g i] at a;simp only [List.mem_flatMap,List.mem_map] at a;obtain⟨d,o,f,s,rfl⟩:=a;exact⟨d,f,rfl,.snoc g o,.snoc i s⟩
  ·rintro ⟨d,f,rfl,b,a⟩;obtain⟨q,g,i⟩:=b.inv;obtain⟨y,t,z⟩:=a.inv;refine .snoc ((j (q*zI r+y)).2 ⟨q,y,rfl,g,t⟩) ?_;rw [c q y g t];simp only [List.mem_flatMap,List.mem_map];exact⟨d,i,f,z,rfl⟩
def Runs (s:Sys) (v:List Nat):Prop:=∃ q,zbB (cho s) [0] v q
theorem zhi (a:Aut) (v:List Nat) (q:Nat):zbB (zbG a).2 [0] v q↔q=zaS a 0 v:=by
 have c:∀ n (v:List Nat),v.length=n->∀ q,zbB (zbG a).2 [0] v q↔q=zaS a 0 v:=by
  intro n
  induction n with
  |zero =>
   intro v hl q;obtain rfl:=eD hl;constructor
   ·intro h;have:=h.ah;simp at this;subst this;rfl
   ·rintro rfl;exact .nil (by simp [zaS])
  |succ n b =>
   intro v hl q;rcases zad v with rfl|⟨u,l,rfl⟩
   ·simp at hl
   rw [zbw];have b:=b u (by simpa using hl);constructor
   ·intro h;obtain⟨g,f,d⟩:=h.inv;rw [(b g).1 f] at d;simpa [zbG] using d
   ·rintro rfl;exact .snoc ((b _).2 rfl) (by simp [zbG])
 exact c _ v rfl q
theorem goes_nil (v:List Nat) (y:Nat):zbB (pnx []) [0] v y↔y=0:=by
 have b:∀ n (v:List Nat),v.length=n->∀ y,zbB (pnx []) [0] v y↔y=0:=by
  intro n
  induction n with
  |zero =>
   intro v hl y;obtain rfl:=eD hl;exact⟨fun h=>by simpa using h.ah,fun h=>.nil (by simp [h])⟩
  |succ n a =>
   intro v hl y;rcases zad v with rfl|⟨u,l,rfl⟩
   ·simp at hl
   have a:=a u (by simpa using hl);constructor
   ·intro h;obtain⟨f,d,c⟩:=h.inv;simpa [pnx] using c
   ·rintro rfl;exact .snoc ((a 0).2 rfl) (by simp [pnx])
 exact b _ v rfl y
theorem zhj {a:Aut}(ha:zj a=true)(hp:zj p=true) (hv:∀ l∈v,l<6) (y:Nat):zbB (pnx [zbG a,zbG p]) [0] v y↔y=zaS a 0 v*p.next.length+zaS p 0 v:=by
 have d:∀ m∈[zbG p],zev m:=by simp;exact zbH hp
 have g:zI [zbG p]=p.next.length:=by simp [zI,zay,zbG]
 have b:∀ z,zbB (pnx [zbG p]) [0] v z↔z=zaS p 0 v:=by
  intro z;rw [zfO (zbH hp) sM _ v rfl hv];constructor
  ·rintro ⟨q,y,rfl,b,c⟩;rw [(goes_nil v y).1 c,(zhi p v q).1 b];simp [zI,zay]
  ·rintro rfl;exact⟨zaS p 0 v,0,by simp [zI,zay],(zhi p v _).2 rfl,(goes_nil v 0).2 rfl⟩
 rw [zfO (zbH ha) d _ v rfl hv,g];constructor
 ·rintro ⟨q,y,rfl,c,f⟩;rw [(zhi a v q).1 c,(b y).1 f]
 ·rintro rfl;exact⟨_,_,rfl,(zhi a v _).2 rfl,(b _).2 rfl⟩
theorem ziI {T:List Mem}(hT:∀ m∈T,zev m) (hv:∀ l∈v,l<6) (g:Nat->Prop):∀ {ss:List Sys},(∀ s∈ss,zev (zea s))->((∃ x,zbB (pnx (ss.map zea++T)) [0] v x∧g (x % zI T))↔(∀ s∈ss,Runs s v)∧∃ y,zbB (pnx T) [0] v y∧g y):=by
 intro ss
 induction ss with
 |nil =>
  intro _;simp only [List.map_nil,List.nil_append,List.not_mem_nil,false_implies,implies_true,true_and];constructor
  ·rintro ⟨x,h,c⟩;rw [iN (goes_lt hT hv h)] at c;exact⟨x,h,c⟩
  ·rintro ⟨x,h,c⟩;exact⟨x,h,by rwa [iN (goes_lt hT hv h)]⟩
 |cons s r j =>
  intro hs;have d:=hs s iG;have f:=fun t a=>hs t (eT _ a);have j:=j f;have hr:∀ m∈r.map zea++T,zev m:=by
   intro m hm;rcases List.mem_append.1 hm with h|h
   ·obtain⟨t,a,rfl⟩:=List.mem_map.1 h;exact f t a
   ·exact hT m h
  have b:∀ q y,(q*zI (r.map zea++T)+y) % zI T=y % zI T:=by
   intro q y;rw [zcg,← Nat.mul_assoc,fY,Nat.mul_add_mod]
  rw [gJ,List.cons_append];constructor
  ·rintro ⟨x,h,c⟩;obtain⟨q,y,rfl,i,k⟩:=(zfO d hr _ v rfl hv x).1 h;rw [b] at c;obtain⟨n,o⟩:=j.1 ⟨y,k,c⟩;refine⟨fun t a=>?_,o⟩;rcases List.mem_cons.1 a with rfl|a
   ·exact⟨q,i⟩
   ·exact n t a
  ·rintro ⟨i,k⟩;obtain⟨y,n,o⟩:=j.2 ⟨fun t a=>i t (eT _ a),k⟩;obtain⟨q,p⟩:=i s iG;exact⟨q*zI (r.map zea++T)+y,(zfO d hr _ v rfl hv _).2 ⟨q,y,rfl,p,n⟩,by rwa [b]⟩
def zfD (ss:List Sys) (a p:Aut) (v:List Nat):Prop:=(∀ s∈ss,Runs s v)∧zcG a (zaS a 0 v)=true∧zcG p (zaS p 0 v)=false
theorem vio_iff {a:Aut}(hss:∀ s∈ss,zk s=true)(ha:zj a=true)(hp:zj p=true) :
  vioB ss a p=true↔∃ v,(∀ l∈v,l∈letters (zC ss|||a.al.toNat) 6)∧zfD ss a p v:=by
 have k:∀ s∈ss,zev (zea s):=fun s hs=>zeH (zct (hss s hs));have u:∀ m∈[zbG a,zbG p],zev m:=by simp;exact⟨zbH ha,zbH hp⟩
 have t:zI [zbG a,zbG p]=a.next.length*p.next.length:=by simp [zI,zay,zbG]
 have z:=(zl ha).2.1;have B:=(zl hp).2.1;have c:∀ x,zbV a p x=zbV a p (x % zI [zbG a,zbG p]):=by
  intro x;unfold zbV;rw [t,Nat.mod_mul_left_mod,fY,jV,Nat.mod_mod]
 have i:∀ v,(∀ l∈v,l<6)->((∃ x,zbB (zcn ss a p) [0] v x∧zbV a p x=true)↔zfD ss a p v):=by
  intro v d;rw [zdo];have n:=ziI u d (fun y=>zbV a p y=true) k;have o:(∃ x,zbB (pnx (zbp ss [a,p])) [0] v x∧zbV a p x=true)↔(∃ x,zbB (pnx (ss.map zea++[zbG a,zbG p])) [0] v x∧zbV a p (x % zI [zbG a,zbG p])=true):=by
   constructor
   ·rintro ⟨x,h,b⟩;exact⟨x,h,by rw [← c];exact b⟩
   ·rintro ⟨x,h,b⟩;exact⟨x,h,by rw [c];exact b⟩
  rw [o,n];unfold zfD;refine and_congr_right fun _=>?_;have j:=zdG ha d (q:=0) oM;have g:=zdG hp d (q:=0) oM;have e1:(zaS a 0 v*p.next.length+zaS p 0 v) / p.next.length % a.next.length=zaS a 0 v:=by
   rw [fY,Nat.mul_add_div oM,jK g,Nat.add_zero,iN j]
  have e2:(zaS a 0 v*p.next.length+zaS p 0 v) % p.next.length=zaS p 0 v:=by
   rw [fY,Nat.mul_add_mod,iN g]
  constructor
  ·rintro ⟨y,hy,b⟩;rw [(zhj ha hp d y).1 hy] at b;unfold zbV at b;rw [e1,e2] at b;simpa using b
  ·intro b;refine⟨_,(zhj ha hp d _).2 rfl,?_⟩;unfold zbV;rw [e1,e2];simpa using b
 unfold vioB lostB;rw [Bool.not_eq_true',@decide_eq_false_iff_not _ (Classical.propDecidable _)];constructor
 ·intro hn;apply Classical.byContradiction;intro hno;refine hn fun v d x hx=>?_;cases hb:zbV a p x
  ·rfl
  ·exact absurd ⟨v,d,(i v (fun l f=>zcz _ l (d l f))).1 ⟨x,hx,hb⟩⟩ hno
 ·rintro ⟨v,d,r⟩ f;obtain⟨x,hx,b⟩:=(i v (fun l f=>zcz _ l (d l f))).2 r;have:=f v d x hx;rw [b] at this;cases this
def hidL (s:Sys) (A l:Nat):Prop:=l<6∧s.al.toNat.testBit l=true∧A.testBit l=false
inductive Cl (s:Sys) (p:Aut) (A:Nat) (B:Nat->Nat->Prop):Nat->Nat->Prop
 |base {q i:Nat} (h:B q i):Cl s p A B q i
 |hid {q i l q':Nat} (h:Cl s p A B q i) (hl:hidL s A l) (hq:q'∈cho s q l):Cl s p A B q' (aGo p i l)
def mvB (s:Sys) (p:Aut) (l:Nat) (B:Nat->Nat->Prop):Nat->Nat->Prop:=fun q' j=>∃ q i,B q i∧q'∈cho s q l∧j=aGo p i l
def prR (s:Sys) (p:Aut) (A:Nat):List Nat->Nat->Nat->Prop
 |[]=>Cl s p A (fun q i=>q=0∧i=0)
 |l :: r=>Cl s p A (mvB s p l (prR s p A r))
def PR (s:Sys) (p:Aut) (A:Nat) (v:List Nat):Nat->Nat->Prop:=prR s p A v.reverse
theorem PR_nil (s:Sys) (p:Aut) (A:Nat):PR s p A []=Cl s p A (fun q i=>q=0∧i=0):=rfl
theorem PR_snoc (s:Sys) (p:Aut) (A:Nat) (v:List Nat) (l:Nat):PR s p A (v++[l])=Cl s p A (mvB s p l (PR s p A v)):=by
 unfold PR;rw [List.reverse_append];rfl
def Bad (s:Sys) (p:Aut) (A:Nat) (v:List Nat):Prop:=∃ q i,PR s p A v q i∧zcG p i=false
def SafeW (s:Sys) (p:Aut) (A:Nat) (v:List Nat):Prop:=∀ k,k<=v.length->¬ Bad s p A (v.take k)
theorem zhq {s:Sys}(hs:Sml s) (hb:s.al.toNat.testBit l=true) (set q':Nat):(zbO s.edges set (l:Int)).testBit q'=true↔∃ q,set.testBit q=true∧q'∈cho s q l:=by
 obtain⟨m,n,h,-⟩:=hs;rw [zdX];constructor
 ·rintro ⟨e,b,⟨c,a⟩,rfl⟩;obtain⟨i,j,k⟩:=h e b;refine⟨e.fr.toNat,a,?_⟩;unfold cho;rw [if_pos hb,zG];refine⟨oM,(zem _ _ _ _).2 ⟨e,b,?_,rfl⟩⟩;exact⟨oM,c⟩
 ·rintro ⟨q,c,a⟩;unfold cho at a;rw [if_pos hb,zG] at a;obtain⟨e,b,⟨d,f⟩,g⟩:=(zem _ _ _ _).1 a.2;exact⟨e,b,⟨f,by rw [d];simpa using c⟩,g⟩
theorem zgD {s:Sys}(hs:Sml s) (x:Nat) (l:Int):zbO s.edges x l<65536:=by
 have a:=zjR hs.2.2.1 x l;have b:(2:Nat) ^ s.st.toNat<=2 ^ 16:=eR oM (oH hs.2.1);exact eN a b
def zdN (T:List Nat) (i q:Nat):Prop:=(T.getD i 0).testBit q=true
theorem zhw (h:zdN T i q):i<T.length:=by
 rcases Nat.lt_or_ge i T.length with a|a
 ·exact a
 ·unfold zdN at h;rw [dI,List.getElem?_eq_none a] at h;simp at h
theorem zcW (hj:j<T.length) (x i q:Nat):zdN (T.set j (T.getD j 0|||x)) i q↔zdN T i q∨(i=j∧x.testBit q=true):=by
 unfold zdN
 by_cases h:j=i
 ·subst h;rw [dI,fJ hj,fW,iZ,gV];simp
 ·rw [dI,gF h,← dI];constructor
  ·exact .inl
  ·rintro (a|⟨a,-⟩)
   ·exact a
   ·exact absurd a.symm h
def zbC (T:List Nat) (n:Nat) (B:Nat->Nat->Prop):Prop:=T.length=n∧(∀ x∈T,x<65536)∧∀ i q,zdN T i q↔B q i
structure ClI (s:Sys) (p:Aut) (A:Nat) (B:Nat->Nat->Prop) (n:Nat) (T:List Nat):Prop where
 len:T.length=n
 lt:∀ x∈T,x<65536
 base:∀ q i,B q i->zdN T i q
 sub:∀ i q,zdN T i q->Cl s p A B q i
def zeU (s:Sys) (p:Aut) (T:List Nat) (i l:Nat):Prop:=∀ q,zdN T i q->∀ q'∈cho s q l,zdN T (aGo p i l) q'
section
variable {s:Sys} {p:Aut} {A n:Nat} {B:Nat->Nat->Prop} {T:List Nat}
theorem zbC.clI (h:zbC T n B):ClI s p A B n T:=⟨h.1,h.2.1,fun q i hb=>(h.2.2 i q).2 hb,fun i q hb=>.base ((h.2.2 i q).1 hb)⟩
theorem zbW (h:∀ x∈T,x<65536) (i:Nat):T.getD i 0<65536:=by
 rw [dI];cases h1:T[i]? with
 |none=>simp
 |some x=>exact h x (dC h1)
theorem ClI.step (h:ClI s p A B n T)(hs:Sml s)(hp:zj p=true)(hn:n=p.next.length) (hi:i<n)(hl:hidL s A l) :
  ClI s p A B n (T.set (aGo p i l) (T.getD (aGo p i l) 0|||zbO s.edges (T.getD i 0) (l:Int))):=by
 have b:aGo p i l<T.length:=by rw [h.len,hn];exact zeq hp oM hl.1
 refine⟨by rw [fX];exact h.len,fun x hx=>?_,fun q i' hb=>(zcW b _ _ _).2 (.inl (h.base q i' hb)),fun i' q hb=>?_⟩
 ·rcases fU hx with hx|rfl
  ·exact h.lt x hx
  ·exact eV (n:=16) (zbW h.lt _) (eN (zjR hs.2.2.1 _ _) (eR oM (oH hs.2.1)))
 ·rcases (zcW b _ _ _).1 hb with a|⟨rfl,a⟩
  ·exact h.sub _ _ a
  ·obtain⟨f,c,d⟩:=(zhq hs hl.2.1 _ _).1 a;exact .hid (h.sub _ _ c) hl d
theorem closedAt_of (hs:Sml s) (hl:hidL s A l)(he:T.getD (aGo p i l) 0|||zbO s.edges (T.getD i 0) (l:Int)=T.getD (aGo p i l) 0):zeU s p T i l:=by
 intro q hq q' hq';unfold zdN;rw [← he,iZ,(zhq hs hl.2.1 _ _).2 ⟨q,hq,hq'⟩,Bool.or_true]
theorem ClI.fin (h:ClI s p A B n T)(hc:∀ i l,i<n->hidL s A l->zeU s p T i l):zbC T n (Cl s p A B):=by
 refine⟨h.len,h.lt,fun i q=>⟨h.sub i q,fun hb=>?_⟩⟩
 induction hb with
 |base hb=>exact h.base _ _ hb
 |hid _ hl hq ih=>exact hc _ _ (by rw [← h.len];exact zhw ih) hl _ ih _ hq
end
def room:List Nat->Nat
 |[]=>0
 |x :: r=>(65536 - x)+room r
theorem room_set:∀ (T:List Nat) (j x:Nat),(T.getD j 0|||x)<65536->room (T.set j (T.getD j 0|||x))<=room T∧(j<T.length->T.getD j 0|||x≠T.getD j 0->room (T.set j (T.getD j 0|||x))<room T)
 |[],j,x,_=>by simp [room]
 |a :: r,0,x,h=>by
  simp only [List.getD_cons_zero,List.set_cons_zero,room] at h ⊢
  have h1:a<=a|||x:=Nat.left_le_or
  refine⟨oM,fun _ h2=>oM⟩
 |a :: r,j+1,x,h=>by
  simp only [List.getD_cons_succ,List.set_cons_succ,room,List.length_cons] at h ⊢
  obtain⟨h1,h2⟩:=room_set r j x h
  refine⟨oM,fun h3 h4=>by have:=h2 oM h4;omega⟩
theorem sub_bit (ha:a<64)(hb:b<64) (l:Nat):l∈letters (a - (a&&&b)) 6↔l<6∧a.testBit l=true∧b.testBit l=false:=by
 rw [zG];refine and_congr_right fun hl=>?_;have c:∀ a<64,∀ b<64,∀ l<6,((a - (a&&&b)).testBit l=true↔a.testBit l=true∧b.testBit l=false):=by decide +kernel
 exact c a ha b hb l hl
theorem stand_bad {s:Sys}    (h:zbC T n (PR s p A v)):Bad s p A v↔∃ i,i<n∧T.getD i 0≠0∧zcG p i=false:=by
 constructor
 ·rintro ⟨q,i,a,b⟩;have hb:=(h.2.2 i q).2 a;refine⟨i,by rw [← h.1];exact zhw hb,fun e=>?_,b⟩;unfold zdN at hb;rw [e] at hb;simp at hb
 ·rintro ⟨i,d,a,b⟩;obtain⟨q,c⟩:=Nat.exists_testBit_of_ne_zero a;exact⟨q,i,(h.2.2 i q).1 c,b⟩
theorem zhY (hn:1<=n):zbC ((eH n 0).set 0 1) n (fun q i=>q=0∧i=0):=by
 refine⟨sM,fun x hx=>?_,fun i q=>?_⟩
 ·rcases fU hx with hx|rfl
  ·rw [iY] at hx;omega
  ·omega
 ·unfold zdN;rw [dI]
  by_cases h:i=0
  ·subst h;rw [fJ (by rw [List.length_replicate];omega),fW];constructor
   ·intro h;exact⟨by cases q with|zero=>rfl|succ q=>simp [Nat.testBit_succ] at h,rfl⟩
   ·rintro ⟨rfl,-⟩;rfl
  ·rw [gF oM];constructor
   ·intro h;cases a:(eH n 0)[i]? with
    |none=>rw [a] at h;simp at h
    |some x =>
     have:=dC a;rw [iY] at this;rw [a,this.2] at h;simp at h
   ·rintro ⟨_,a⟩;exact absurd a h
def MvP (s:Sys) (p:Aut) (l:Nat) (T:List Nat) (k:Nat) (U:List Nat):Prop:=
 U.length=12∧(∀ x∈U,x<65536)∧∀ j q',zdN U j q'↔∃ i q,i<k∧zdN T i q∧q'∈cho s q l∧j=aGo p i l
def goS (s:Sys) (l x:Nat):Nat:=if s.al.toNat.testBit l=true then zbO s.edges x (l:Int) else x
section
variable {s:Sys} {p:Aut} {l k n:Nat} {T U:List Nat} {B:Nat->Nat->Prop}
theorem goS_bit (hs:Sml s) (x q':Nat):(goS s l x).testBit q'=true↔∃ q,x.testBit q=true∧q'∈cho s q l:=by
 unfold goS
 by_cases hb:s.al.toNat.testBit l=true
 ·rw [if_pos hb];exact zhq hs hb x q'
 ·rw [if_neg hb];constructor
  ·intro h;refine⟨q',h,?_⟩;unfold cho;rw [if_neg hb];simp
  ·rintro ⟨q,b,a⟩;unfold cho at a;rw [if_neg hb] at a;obtain rfl:q'=q:=by simpa using a
   exact b
theorem goS_lt (hs:Sml s) (hx:x<65536):goS s l x<65536:=by
 unfold goS;split
 ·exact zgD hs _ _
 ·exact hx
theorem zero_bit (n i q:Nat):¬ zdN (eH n 0) i q:=by
 unfold zdN;rw [dI];cases h:(eH n 0)[i]? with
 |none=>simp
 |some x =>
  have:=dC h;rw [iY] at this;simp [this.2]
theorem MvP.zero:MvP s p l T 0 (eH 12 0):=by
 refine⟨sM,fun x hx=>by rw [iY] at hx;omega,fun j q'=>⟨fun h=>absurd h (zero_bit _ _ _),?_⟩⟩;rintro ⟨i,q,h,-⟩;omega
theorem MvP.skip (h:MvP s p l T k U)(h0:T.getD k 0=0):MvP s p l T (k+1) U:=by
 refine⟨h.1,h.2.1,fun j q'=>⟨fun hb=>?_,?_⟩⟩
 ·obtain⟨i,q,b,a⟩:=(h.2.2 j q').1 hb;exact⟨i,q,oM,a⟩
 ·rintro ⟨i,q,b,a,c⟩;rcases eU (fK b) with d|rfl
  ·exact (h.2.2 j q').2 ⟨i,q,d,a,c⟩
  ·unfold zdN at a;rw [h0] at a;simp at a
theorem MvP.step (h:MvP s p l T k U)(hs:Sml s)(hT:∀ x∈T,x<65536)(hj:aGo p k l<12):MvP s p l T (k+1) (U.set (aGo p k l) (U.getD (aGo p k l) 0|||goS s l (T.getD k 0))):=by
 have c:aGo p k l<U.length:=by rw [h.1];exact hj
 refine⟨by rw [fX];exact h.1,fun x hx=>?_,fun j q'=>?_⟩
 ·rcases fU hx with hx|rfl
  ·exact h.2.1 x hx
  ·exact eV (n:=16) (zbW h.2.1 _) (goS_lt hs (zbW hT _))
 ·rw [zcW c,h.2.2 j q',goS_bit hs];constructor
  ·rintro (⟨i,q,b,a⟩|⟨rfl,q,b,a⟩)
   ·exact⟨i,q,oM,a⟩
   ·exact⟨k,q,oM,b,a,rfl⟩
  ·rintro ⟨i,q,b,a,d,f⟩;rcases eU (fK b) with g|rfl
   ·exact .inl ⟨i,q,g,a,d,f⟩
   ·exact .inr ⟨f,q,a,d⟩
theorem MvP.fin (h:MvP s p l T 12 U)(hT:zbC T 12 B):zbC U 12 (mvB s p l B):=by
 refine⟨h.1,h.2.1,fun j q'=>?_⟩;rw [h.2.2 j q'];constructor
 ·rintro ⟨i,q,-,a,b,c⟩;exact⟨q,i,(hT.2.2 i q).1 a,b,c⟩
 ·rintro ⟨q,i,a,b,c⟩;have hb:=(hT.2.2 i q).2 a;exact⟨i,q,by rw [← hT.1];exact zhw hb,hb,b,c⟩
def Has (M V:List Nat) (k:Nat):Prop:=∀ i q,i<k->zdN V i q->zdN M i q
theorem Has.zero (M V:List Nat):Has M V 0:=fun i q h=>oM
theorem Has.all (h:Has M V 12)(hV:V.length=12) (i q:Nat)(hb:zdN V i q):zdN M i q:=h i q (by rw [← hV];exact zhw hb) hb
theorem Has.set (h:Has M V n) (hj:j<M.length):Has (M.set j (M.getD j 0|||x)) V n:=fun i q hi hb=>(zcW hj _ _ _).2 (.inl (h i q hi hb))
theorem Has.step (h:Has M V k)(hk:k<M.length):Has (M.set k (M.getD k 0|||V.getD k 0)) V (k+1):=fun i q hi hb=>by
 rw [zcW hk]
 rcases eU (fK hi) with h4|rfl
 ·exact .inl (h i q h4 hb)
 ·exact .inr ⟨rfl,hb⟩
variable {A:Nat}
theorem ClI.join (h:ClI s p A B 12 M)(hT:ClI s p A B 12 T)(hV:MvP s p l T 12 V)(hl:hidL s A l)(hk:k<12):ClI s p A B 12 (M.set k (M.getD k 0|||V.getD k 0)):=by
 have a:k<M.length:=by rw [h.len];exact hk
 refine⟨by rw [fX];exact h.len,fun x hx=>?_,fun q i hb=>(zcW a _ _ _).2 (.inl (h.base q i hb)),fun i q hb=>?_⟩
 ·rcases fU hx with hx|rfl
  ·exact h.lt x hx
  ·exact eV (n:=16) (zbW h.lt _) (zbW hV.2.1 _)
 ·rcases (zcW a _ _ _).1 hb with hb|⟨rfl,hb⟩
  ·exact h.sub i q hb
  ·obtain⟨d,f,-,b,c,rfl⟩:=(hV.2.2 i q).1 hb;exact .hid (hT.sub d f b) hl c
theorem ClI.stop (hT:ClI s p A B 12 T)(h:∀ l,hidL s A l->∃ V,MvP s p l T 12 V∧Has T V 12):zbC T 12 (Cl s p A B):=
 hT.fin fun i l hi hl q hq q' hq'=>by
  obtain⟨V,hV,hh⟩:=h l hl
  exact hh.all hV.1 _ _ ((hV.2.2 _ _).2 ⟨i,q,hi,hq,hq',rfl⟩)
end
theorem bits_le (h:∀ q,a.testBit q=true->b.testBit q=true):a<=b:=by
 have:a|||b=b:=gH fun q=>by
  rw [iZ];cases ha:a.testBit q
  ·simp
  ·rw [h q ha];simp
 rw [← this];exact Nat.left_le_or
theorem room_le:∀ {T M:List Nat},T.length=M.length->(∀ x∈M,x<65536)->(∀ i,T.getD i 0<=M.getD i 0)->room M<=room T∧(T≠M->room M<room T)
 |[],[],_,_,_=>⟨dD _,fun h=>absurd rfl h⟩
 |[],_ :: _,h,_,_=>by simp at h
 |_ :: _,[],h,_,_=>by simp at h
 |a :: r,b :: t,h,hM,hle=>by
  have h0:a<=b:=by simpa using hle 0
  have hb:=hM b sM;obtain⟨d,c⟩:=room_le (T:=r) (M:=t) (by simpa using h) (fun x hx=>hM x (by simp [hx])) (fun i=>by simpa using hle (i+1));refine⟨by simp only [room];omega,fun hne=>?_⟩;simp only [room]
  by_cases e:a=b
  ·subst e;have:=c (fun e2=>hne (by rw [e2]));omega
  ·omega
theorem room_grow (h1:T.length=M.length)(hM:∀ x∈M,x<65536)(h:∀ i q,zdN T i q->zdN M i q)(hne:T≠M):room M<room T:=
 (room_le h1 hM (fun i=>bits_le (fun q hq=>h i q hq))).2 hne
def bq (T:List Nat):Nat->Nat->Prop:=fun q i=>zdN T i q
theorem zbC.eq {B:Nat->Nat->Prop}(h:zbC T n B):bq T=B:=funext fun q=>funext fun i=>propext (h.2.2 i q)
structure WS (p:Aut) (T:List Nat):Prop where
 len:T.length=12
 lt:∀ x∈T,x<65536
 row:∀ i q,zdN T i q->i<p.next.length
theorem WS.stand (h:WS p T):zbC T 12 (bq T):=⟨h.len,h.lt,fun _ _=>Iff.rfl⟩
theorem WS.idx (h:WS p T) (h0:T.getD i 0≠0):i<p.next.length:=by
 obtain⟨q,a⟩:=Nat.exists_testBit_of_ne_zero h0;exact h.row i q a
def zgr (p:Aut) (T:List Nat):Nat->Bool
 |0=>false
 |k+1=>zgr p T k || (T.getD k 0 != 0&&!zcG p k)
def badS (p:Aut) (T:List Nat):Bool:=zgr p T 12
theorem badSN_iff (p:Aut) (T:List Nat):∀ k,zgr p T k=true↔∃ i,i<k∧T.getD i 0≠0∧zcG p i=false
 |0=>⟨fun h=>(by cases h),fun ⟨i,h,_⟩=>oM⟩
 |k+1=>by
  unfold zgr
  rw [gV,badSN_iff p T k]
  constructor
  ·rintro (⟨i,h1,h2⟩|h)
   ·exact⟨i,oM,h2⟩
   ·refine⟨k,oM,?_⟩
    simpa using h
  ·rintro ⟨i,h1,h2,h3⟩
   rcases eU (fK h1) with h4|rfl
   ·exact .inl ⟨i,h4,h2,h3⟩
   ·exact .inr (by simp only [h3,Bool.not_false,Bool.and_true];simpa using h2)
theorem zje {s:Sys}    (h:zbC T 12 (PR s p A v)):badS p T=true↔Bad s p A v:=by
 rw [stand_bad h];exact badSN_iff p T 12
theorem cl_row {s:Sys}   {B:Nat->Nat->Prop}(hp:zj p=true)(hB:∀ q i,B q i->i<p.next.length) (h:Cl s p A B q i):i<p.next.length:=by
 induction h with
 |base h=>exact hB _ _ h
 |hid _ hl _ ih=>exact zeq hp ih hl.1
def Lead (s:Sys) (p:Aut) (A l:Nat) (T U:List Nat):Prop:=zbC U 12 (Cl s p A (mvB s p l (bq T)))
theorem Lead.ws {s:Sys}   (h:Lead s p A l T U)(hp:zj p=true)(hl:l<6)(hT:WS p T):WS p U:=
 ⟨h.1,h.2.1,fun i q hb=>cl_row hp (fun q i ⟨_,i0,h1,_,h3⟩=>by rw [h3];exact zeq hp (hT.row _ _ h1) hl) ((h.2.2 i q).1 hb)⟩
theorem Lead.pr {s:Sys}    (h:Lead s p A l T U)(hT:zbC T 12 (PR s p A v)):zbC U 12 (PR s p A (v++[l])):=by
 unfold Lead at h;rw [hT.eq,← PR_snoc] at h;exact h
theorem start_ws {s:Sys}   (h:zbC U 12 (PR s p A []))(hp:zj p=true)(h0:0<p.next.length):WS p U:=
 ⟨h.1,h.2.1,fun i q hb=>cl_row hp (fun q i ⟨_,h3⟩=>by rw [h3];exact h0) ((h.2.2 i q).1 hb)⟩
structure SfI (s:Sys) (p:Aut) (A:Nat) (Ts:List (List Nat)) (nx:Nat->Nat->Int):Prop where
 ws:∀ T∈Ts,WS p T
 start:∃ T,Ts[0]?=some T∧zbC T 12 (PR s p A [])
 nx:∀ k l,k<Ts.length->l<6->nx k l = -1∨∃ (j:Nat) (T U:List Nat),nx k l=(j:Int)∧Ts[k]?=some T∧Ts[j]?=some U∧Lead s p A l T U
section
variable {s:Sys} {p:Aut} {A:Nat} {Ts:List (List Nat)} {nx:Nat->Nat->Int}
theorem SfI.add (h:SfI s p A Ts nx) (hU:WS p U):SfI s p A (Ts++[U]) (fun k l=>if k=Ts.length then -1 else nx k l):=by
 obtain⟨T,d,g⟩:=h.start;refine⟨fun V a=>?_,⟨T,by rw [eC (List.getElem?_eq_some_iff.1 d).1];exact d,g⟩,fun k l hk hl=>?_⟩
 ·rcases List.mem_append.1 a with a|a
  ·exact h.ws V a
  ·obtain rfl:V=U:=by simpa using a
   exact hU
 ·by_cases e:k=Ts.length
  ·exact .inl (if_pos e)
  ·have b:k<Ts.length:=by simp at hk;omega
   simp only [if_neg e];rcases h.nx k l b hl with c|⟨j,T,U,c,i,f,m⟩
   ·exact .inl c
   ·exact .inr ⟨j,T,U,c,by rw [eC b];exact i,by rw [eC (List.getElem?_eq_some_iff.1 f).1];exact f,m⟩
theorem SfI.set (h:SfI s p A Ts nx)  (hT:Ts[k]?=some T)(hU:Ts[j]?=some U)(hl:Lead s p A l T U):SfI s p A Ts (fun k' l'=>if k'=k∧l'=l then (j:Int) else nx k' l'):=by
 refine⟨h.ws,h.start,fun k' l' hk' hl'=>?_⟩
 by_cases e:k'=k∧l'=l
 ·obtain⟨rfl,rfl⟩:=e;exact .inr ⟨j,T,U,if_pos ⟨rfl,rfl⟩,hT,hU,hl⟩
 ·simp only [if_neg e];exact h.nx k' l' hk' hl'
end
end Go.Proofs.YtckbjnndaaoddaaGreatDoor
