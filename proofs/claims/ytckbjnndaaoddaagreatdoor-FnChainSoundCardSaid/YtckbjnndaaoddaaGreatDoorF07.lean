/- ChainFault o -/
import Derived.Test.YtckbjnndaaoddaaGreatDoorF06
import Derived.Lib.SliceRun
set_option maxHeartbeats 4000000
set_option maxRecDepth 100000
namespace Go.Proofs.YtckbjnndaaoddaaGreatDoor
open Go Go.RowKit
open Bool renaming and_eq_true->dF,eq_false_iff->eT,or_eq_true->gA
open Ext renaming drew->eZ,refl->cY,trans->eE
open Frm renaming setCell->dE
open List renaming all_eq_true->eC,eq_nil_of_length_eq_zero->dT,getD_eq_getElem?_getD->dH,getElem?_eq_getElem->dC,getElem?_eq_none->eD,getElem?_map->dQ,getElem?_of_mem->dX,getElem?_set_ne->fL,getElem?_set_self->eX,length_append->dO,length_singleton->eH,length_take->eK,mem_cons_of_mem->fM,mem_cons_self->gD,mem_of_getElem?->dB,mem_or_eq_of_mem_set->eW,mem_replicate->iW,nil_append->eA,replicate->dS,take_add_one->dJ,take_of_length_le->dI
open Nat renaming and_le_left->iE,div_eq_of_lt->iQ,le_of_lt_succ->gH,le_refl->dD,le_trans->dK,lt_of_lt_of_le->eI,lt_or_eq_of_le->eV,mod_eq_of_lt->hY,mul_comm->fO,or_lt_two_pow->eB,pow_le_pow_right->dZ,testBit_and->iF,testBit_or->gU,zero_add->dP,zero_le->dG
open Option renaming getD_some->fX,toList_some->eG
variable {A:Option Addr} {G N a b base c cap g i j k l n q:Nat} {T ls v:List Nat} {W W' w w0:World} {al st:Int} {cs:Array Value} {es:List Edg} {p:Aut} {s:ByteArray} {t:TypeId}
theorem zca {x y z:Sys} (h:three [x,y,z] p=true):∃ c:Nat,zW [x,y,z] p=(c:Int)∧c<=63:=by
 have f:=h;simp only [three,dF] at f;obtain⟨_,hv⟩:=zap f.2.1;have l:=zI (hv x sM);have o:=zI (hv y sM);have q:=zI (hv z sM);have k:=(zk f.2.2).1;unfold zW;rw [h,if_pos rfl];obtain⟨a,g⟩:∃ a:Nat,x.al=a:=⟨x.al.toNat,oM⟩;obtain⟨b,hb⟩:∃ a:Nat,y.al=a:=⟨y.al.toNat,oM⟩;obtain⟨c,i⟩:∃ a:Nat,z.al=a:=⟨z.al.toNat,oM⟩;obtain⟨d,j⟩:∃ a:Nat,p.al=a:=⟨p.al.toNat,oM⟩;dsimp only;rw [g,hb,i,j];have e1:=eB (n:=6) (x:=a) (y:=d) oM oM;have e2:=eB (n:=6) (x:=b) (y:=c) oM oM;rw [zaR tM tM,zaR tM tM,zbz tM tM];refine⟨_,rfl,?_⟩;have:=iE (n:=a|||d) (m:=b|||c);omega
noncomputable def zaC (ss:List Sys) (p f g:Aut):Int:=
 if (three ss p&&(zh f&&zh g))=false then 1
 else if (decide (f.al=zW ss p)&&decide (g.al=zaM ss p))=false then 2
 else match ss with
  |[x,y,z]=>if (zaz x f p&&zaz y g f)=false then 3 else if zat [z] g=false then 4 else 0
  |_=>0
section
variable {lo hi c:Nat} {A:Option Addr} {ss:List Sys} {lo1 hi1 m1 d1 m1' d1':Nat} {B B':Option Addr} {p:Aut} {lo2 hi2 m2 d2 m2' d2':Nat} {C C':Option Addr} {f:Aut} {lo3 hi3 m3 d3 m3' d3':Nat} {D D':Option Addr} {g:Aut} {w:World}
theorem yF07a3 {P:Prop}(h:P:=by
 obtain⟨b,o,s,Bx,nx_,cx,rfl,_,_,hs,e0,e1,e2,hx⟩:=(HS.out w (Ext.refl _)).sys (k:=0) oM;obtain rfl:x=s:=by have:=hs.out;simpa using this
 obtain⟨By,ny,cy,f0,f1,f2,hy⟩:=(HS.out w (Ext.refl _)).ar (k:=1) (s:=y) rfl;obtain⟨Bz,nz,cz,g0,g1,g2,hz⟩:=(HS.out w (Ext.refl _)).ar (k:=2) (s:=z) rfl;refine⟨b,o,rfl,⟨Bx,By,Bz,nx_,ny,nz,cx,cy,cz,fun W hW=>⟨fun j=>?_,hx.ext hW,hy.ext hW,hz.ext hW⟩⟩⟩
 match j with
 |0=>exact Or.inl (hW.aa (by simpa using e0))
 |1=>exact Or.inl (hW.aa (by simpa using e1))
 |2=>exact Or.inl (hW.aa (by simpa using e2))
 |3=>exact Or.inl (hW.aa (by simpa using f0))
 |4=>exact Or.inl (hW.aa (by simpa [Nat.add_assoc] using f1))
 |5=>exact Or.inl (hW.aa (by simpa [Nat.add_assoc] using f2))
 |6=>exact Or.inl (hW.aa (by simpa using g0))
 |7=>exact Or.inl (hW.aa (by simpa [Nat.add_assoc] using g1))
 |8=>exact Or.inl (hW.aa (by simpa [Nat.add_assoc] using g2))
 |j+9=>exact Or.inr oM
 ):P:=h
theorem yF07a6 {P:Prop}(h:P:=by
 go_enter Tryz.func24,Tryz.ntmps24
 go_upto_region 1 with fail
 generalize (w.alloc _).alloc _=w1 at *;have c1:=b1.cell;go_wp2_with (first
  |(go_at_call 56;refine (HCL.out _ hw1).mono ?_;rw [hc1.out,hq2.out];rintro e w2 ⟨rfl,hx2⟩;have hw2:=hw1.trans hx2;have c22:=(b2.ext hx2).cell)
  |(go_at_call 79;with_reducible refine (HF.out _ hw2).mono ?_;rw [V1.out];rintro e w3 ⟨rfl,hx3⟩;have hw3:=hw2.trans hx3;have c32:=(b2.ext (hx2.trans hx3)).cell)
  |(go_at_call 79;with_reducible refine (HG.out _ hw3).mono ?_;rw [V2.out];rintro e w4 ⟨rfl,hx4⟩;have hw4:=hw3.trans hx4;have c42:=(b2.ext (hx2.trans (hx3.trans hx4))).cell))
 go_ret;exact⟨zG (by rw [hr.out]),hw4⟩
 ):P:=h
theorem yF07a7 {P:Prop}(h:P:=by
 refine uQ ?_;refine zd fun K hK=>?_;go_simp;refine (HK1.out _ (hw4.trans hww.drew)).mono (mQ fun w5 hy0=>?_);have hy:=hww.drew.trans hy0;refine hK.out _ _ hy ?_;refine pT ?_;refine uQ ?_;refine zb fun K hK=>?_;go_simp;refine (HK2.out _ (hw4.trans hy)).mono (mQ fun w6 hy1=>?_);have hyy:=hy.trans hy1;refine hK.out _ _ ?_;refine pT ?_;refine uQ ?_;refine ze ?_;go_wp2_with fail
 go_ret;exact⟨zG (by rw [hr.out];rfl),hw1.trans (hx14.trans hyy)⟩
 ):P:=h
theorem yF07a8 {P:Prop}(h:P:=by
 have hh:=(HX2.out W (hw4.trans hW)).1;refine⟨(hh 0).resolve_right oM,(hh 1).resolve_right oM,(hh 2).resolve_right oM,(hh 3).resolve_right oM,(hh 4).resolve_right oM,(hh 5).resolve_right oM,(hh 6).resolve_right oM,(hh 7).resolve_right oM,(hh 8).resolve_right oM⟩
 ):P:=h
theorem yF07a9 {P:Prop}(h:P:=by
 refine uQ ?_;refine zb fun K hK=>?_;go_simp;refine (HK3.out _ (hw4.trans (hyy0.trans hww.drew))).mono (mQ fun w7 hy2=>?_);have hyy2:=hyy0.trans (hww.drew.trans hy2);refine hK.out _ _ ?_;refine pT ?_;refine uQ ?_;refine ze ?_;go_wp2_with fail
 go_ret;exact⟨zG (by rw [hr.out];rfl),hw1.trans (hx14.trans hyy2)⟩
 ):P:=h
theorem yF07a10 {P:Prop}(h:P:=by
 refine uQ ?_;refine zd fun K hK=>?_;go_simp;refine (HK1.out _ (hw4.trans hww.drew)).mono (mQ fun w5 hy0=>?_);have hy:=hww.drew.trans hy0;refine hK.out _ _ hy ?_;refine pT ?_;refine uQ ?_;refine ze ?_;go_wp2_with fail
 go_ret;exact⟨zG (by rw [hr.out];rfl),hw1.trans (hx14.trans hy)⟩
 ):P:=h
theorem yF07a11 {P:Prop}(h:P:=by
 have hh:=(HX2.out W (hw4.trans (hyy0.trans hW))).1;exact⟨(hh 6).resolve_right oM,(hh 7).resolve_right oM,(hh 8).resolve_right oM⟩
 ):P:=h
theorem spec_ChainFault (h:zcC w lo hi A n ss)(hp:zE w lo1 hi1 B m1 B' m1' p)(hf:zE w lo2 hi2 C m2 C' m2' f)(hg:zE w lo3 hi3 D m3 D' m3' g) :
  Calls Tryz.prog 24 #[.slice A n c,.agg #[p.al,.slice B m1 d1,.slice B' m1' d1'],.agg #[f.al,.slice C m2 d2,.slice C' m2' d2',g.al,.slice D m3 d3,.slice D' m3' d3']] w fun e w'=>e=.returned (.int .i64 (zaC ss p f g))∧Ext w w':=by
 have HS:=za (fun W (hW:Ext w W)=>h.ext hW);have G:=za (fun W (hW:Ext w W)=>hp.ext hW);have m:=za (fun W (hW:Ext w W)=>hf.ext hW);have q:=za (fun W (hW:Ext w W)=>hg.ext hW);have HCL:=za (fun W (hW:Ext w W)=>zba (c:=c) (d:=d1) (d':=d1') (h.ext hW) (hp.ext hW));have HF:=za (fun W (hW:Ext w W)=>zA _ _ _ _ d2 _ _ d2' _ _ (hf.ext hW));have HG:=za (fun W (hW:Ext w W)=>zA _ _ _ _ d3 _ _ d3' _ _ (hg.ext hW));have L:=za h.1;clear h hp hf hg;have hw1:Ext w ((w.alloc (.cells #[p.al,.slice B m1 d1,.slice B' m1' d1'] 27)).alloc (.cells #[f.al,.slice C m2 d2,.slice C' m2' d2',g.al,.slice D m3 d3,.slice D' m3' d3'] 31)):=((cY w).alloc _).alloc _;obtain⟨b1,b2⟩:=zS (cY ((w.alloc (.cells #[p.al,.slice B m1 d1,.slice B' m1' d1'] 27)).alloc (.cells #[f.al,.slice C m2 d2,.slice C' m2' d2',g.al,.slice D m3 d3,.slice D' m3' d3'] 31)));cases hT:three ss p
 ·have hr:=za (show zaC ss p f g=1 by unfold zaC;rw [hT];rfl);have hc1:=za (show zW ss p = -1 by unfold zW;rw [hT];rfl);clear hT
  go_enter Tryz.func24,Tryz.ntmps24
  go_upto_region 1 with fail
  generalize (w.alloc _).alloc _=w1 at *;have c1:=b1.cell;go_wp2_with (go_at_call 56;refine (HCL.out _ hw1).mono ?_;rw [hc1.out];rintro e w2 ⟨rfl,hx2⟩)
  go_ret;exact⟨zG (by rw [hr.out]),hw1.trans hx2⟩
 ·obtain⟨x,y,z,rfl⟩:=zbw hT;obtain⟨v,u,O⟩:=zca hT;obtain rfl:n=3:=L.out;have hc1:=za u;obtain⟨E,hq2⟩:∃ E:Int,Hid (zaM [x,y,z] p=E):=⟨_,rfl⟩;have a:=za hT;clear hT u L;have M:¬ (v:Int)<0:=oM;obtain⟨b,o,rfl,J⟩:∃ b o,A=some ⟨b,o,none⟩∧Hid (∃ (Bx By Bz:Option Addr) (nx_ ny nz cx cy cz:Nat),∀ W,Ext w W->(∀ j,W.cell? ⟨b,o+j,none⟩=#[Value.int .i64 x.al,.int .i64 x.st,.slice Bx nx_ cx,.int .i64 y.al,.int .i64 y.st,.slice By ny cy,.int .i64 z.al,.int .i64 z.st,.slice Bz nz cz][j]?∨9<=j)∧zR W lo hi Bx nx_ x∧zR W lo hi By ny y∧zR W lo hi Bz nz z):=by
   exact yF07a3
  by_cases hV:(zh f&&zh g)=true
  ·simp only [dF] at hV;have V1:=za hV.1;have V2:=za hV.2;clear hV
   by_cases hE1:f.al=(v:Int)
   ·by_cases hE2:g.al=E
    ·skip;have hr:=za (show zaC [x,y,z] p f g=if (zaz x f p&&zaz y g f)=false then 3 else if zat [z] g=false then 4 else 0 by
      unfold zaC;rw [a.out,V1.out,V2.out,hc1.out,hq2.out,decide_eq_true hE1,decide_eq_true hE2];rfl)
     have Q:=za hE1;have R:=za hE2;have t:(f.al != (v:Int))=false:=by simp [hE1]
     have I:(g.al != E)=false:=by simp [hE2]
     clear hE1 hE2;obtain⟨Bx,By,Bz,nx_,ny,nz,cx,cy,cz,r⟩:=J.out;have HX2:=za r;clear J r;have HK1:=za (fun W (hW:Ext w W)=>zch (c:=cx) (d1:=d2) (d1':=d2') (d2:=d1) (d2':=d1') (HX2.out W hW).2.1 (m.out W hW) (G.out W hW));have HK2:=za (fun W (hW:Ext w W)=>zch (c:=cy) (d1:=d3) (d1':=d3') (d2:=d2) (d2':=d2') (HX2.out W hW).2.2.1 (q.out W hW) (m.out W hW));have HK3:=za (fun W (hW:Ext w W)=>zcv (c:=cz) (d2:=d3) (d2':=d3') (HX2.out W hW).2.2.2 (q.out W hW));generalize zaz x f p=T at *;generalize zaz y g f=U at *;generalize zat [z] g=V at *;cases T
     rotate_left
     ·cases U
      rotate_left
      ·cases V
       all_goals
        go_enter Tryz.func24,Tryz.ntmps24
        go_upto_region 1 with fail
        generalize (w.alloc _).alloc _=w1 at *;have c1:=b1.cell;go_upto_region 6 with (first
         |(go_at_call 56;refine (HCL.out _ hw1).mono ?_;rw [hc1.out,hq2.out];rintro e w2 ⟨rfl,hx2⟩;have hw2:=hw1.trans hx2;have c22:=(b2.ext hx2).cell)
         |(go_at_call 79;with_reducible refine (HF.out _ hw2).mono ?_;rw [V1.out];rintro e w3 ⟨rfl,hx3⟩;have hw3:=hw2.trans hx3;have c32:=(b2.ext (hx2.trans hx3)).cell)
         |(go_at_call 79;with_reducible refine (HG.out _ hw3).mono ?_;rw [V2.out];rintro e w4 ⟨rfl,hx4⟩;have hw4:=hw3.trans hx4;have c42:=(b2.ext (hx2.trans (hx3.trans hx4))).cell))
        have hx14:=hx2.trans (hx3.trans hx4);have i:=b1.ext hx14;have k:=b2.ext hx14;have H:=i.cells;have F:=k.cells;have l:∀ W,Ext w4 W->W.cell? ⟨b,o,none⟩=some (.int .i64 x.al)∧W.cell? ⟨b,o+1,none⟩=some (.int .i64 x.st)∧W.cell? ⟨b,o+2,none⟩=some (.slice Bx nx_ cx)∧W.cell? ⟨b,o+3,none⟩=some (.int .i64 y.al)∧W.cell? ⟨b,o+4,none⟩=some (.int .i64 y.st)∧W.cell? ⟨b,o+5,none⟩=some (.slice By ny cy)∧W.cell? ⟨b,o+6,none⟩=some (.int .i64 z.al)∧W.cell? ⟨b,o+7,none⟩=some (.int .i64 z.st)∧W.cell? ⟨b,o+8,none⟩=some (.slice Bz nz cz):=fun W hW=>by
         exact yF07a8
        have hww:=cY w4;clear c1 c22 c32 c42 i k;refine uR (fun X=>Ext w4 X) [16] (zv.of [0,1,2,3,4,5,6,7,8,9,10,11,12,13,14,15,16,17,18]) ?_;refine uQ ?_;refine zd fun K hK=>?_;go_simp;refine (HK1.out _ (hw4.trans hww.drew)).mono (mQ fun w5 hy0=>?_);have hy:=hww.drew.trans hy0;refine hK.out _ _ hy ?_;refine pT ?_;refine uQ ?_;refine zb fun K hK=>?_;go_simp;refine (HK2.out _ (hw4.trans hy)).mono (mQ fun w6 hy1=>?_);have hyy:=hy.trans hy1;refine hK.out _ _ ?_;refine pT ?_;refine uQ ?_;refine ze ?_;go_wp2_with fail
        have hyy0:=hyy;clear H F l hww;go_upto_region 8 with fail
        have S:∀ W,Ext w6 W->W.cell? ⟨b,o+6,none⟩=some (.int .i64 z.al)∧W.cell? ⟨b,o+7,none⟩=some (.int .i64 z.st)∧W.cell? ⟨b,o+8,none⟩=some (.slice Bz nz cz):=fun W hW=>by
         exact yF07a11
        have F:∀ W,Ext w6 W->∀ j,W.cell? ⟨w.heap.size+1,j,none⟩=#[Value.int .i64 f.al,.slice C m2 d2,.slice C' m2' d2',.int .i64 g.al,.slice D m3 d3,.slice D' m3' d3'][j]?:=fun W hW=>(b2.ext (hx14.trans (hyy0.trans hW))).cell;have hww:=cY w6;refine uR (fun X=>Ext w6 X) [5] (zv.of [0,1,2,3,4,5,6]) ?_;exact yF07a9
      ·go_enter Tryz.func24,Tryz.ntmps24
       go_upto_region 1 with fail
       generalize (w.alloc _).alloc _=w1 at *;have c1:=b1.cell;go_upto_region 6 with (first
        |(go_at_call 56;refine (HCL.out _ hw1).mono ?_;rw [hc1.out,hq2.out];rintro e w2 ⟨rfl,hx2⟩;have hw2:=hw1.trans hx2;have c22:=(b2.ext hx2).cell)
        |(go_at_call 79;with_reducible refine (HF.out _ hw2).mono ?_;rw [V1.out];rintro e w3 ⟨rfl,hx3⟩;have hw3:=hw2.trans hx3;have c32:=(b2.ext (hx2.trans hx3)).cell)
        |(go_at_call 79;with_reducible refine (HG.out _ hw3).mono ?_;rw [V2.out];rintro e w4 ⟨rfl,hx4⟩;have hw4:=hw3.trans hx4;have c42:=(b2.ext (hx2.trans (hx3.trans hx4))).cell))
       have hx14:=hx2.trans (hx3.trans hx4);have i:=b1.ext hx14;have k:=b2.ext hx14;have H:=i.cells;have F:=k.cells;have l:∀ W,Ext w4 W->W.cell? ⟨b,o,none⟩=some (.int .i64 x.al)∧W.cell? ⟨b,o+1,none⟩=some (.int .i64 x.st)∧W.cell? ⟨b,o+2,none⟩=some (.slice Bx nx_ cx)∧W.cell? ⟨b,o+3,none⟩=some (.int .i64 y.al)∧W.cell? ⟨b,o+4,none⟩=some (.int .i64 y.st)∧W.cell? ⟨b,o+5,none⟩=some (.slice By ny cy)∧W.cell? ⟨b,o+6,none⟩=some (.int .i64 z.al)∧W.cell? ⟨b,o+7,none⟩=some (.int .i64 z.st)∧W.cell? ⟨b,o+8,none⟩=some (.slice Bz nz cz):=fun W hW=>by
        exact yF07a8
       have hww:=cY w4;clear c1 c22 c32 c42 i k;refine uR (fun X=>Ext w4 X) [16] (zv.of [0,1,2,3,4,5,6,7,8,9,10,11,12,13,14,15,16,17,18]) ?_;exact yF07a7
     ·go_enter Tryz.func24,Tryz.ntmps24
      go_upto_region 1 with fail
      generalize (w.alloc _).alloc _=w1 at *;have c1:=b1.cell;go_upto_region 6 with (first
       |(go_at_call 56;refine (HCL.out _ hw1).mono ?_;rw [hc1.out,hq2.out];rintro e w2 ⟨rfl,hx2⟩;have hw2:=hw1.trans hx2;have c22:=(b2.ext hx2).cell)
       |(go_at_call 79;with_reducible refine (HF.out _ hw2).mono ?_;rw [V1.out];rintro e w3 ⟨rfl,hx3⟩;have hw3:=hw2.trans hx3;have c32:=(b2.ext (hx2.trans hx3)).cell)
       |(go_at_call 79;with_reducible refine (HG.out _ hw3).mono ?_;rw [V2.out];rintro e w4 ⟨rfl,hx4⟩;have hw4:=hw3.trans hx4;have c42:=(b2.ext (hx2.trans (hx3.trans hx4))).cell))
      have hx14:=hx2.trans (hx3.trans hx4);have i:=b1.ext hx14;have k:=b2.ext hx14;have H:=i.cells;have F:=k.cells;have l:∀ W,Ext w4 W->W.cell? ⟨b,o,none⟩=some (.int .i64 x.al)∧W.cell? ⟨b,o+1,none⟩=some (.int .i64 x.st)∧W.cell? ⟨b,o+2,none⟩=some (.slice Bx nx_ cx)∧W.cell? ⟨b,o+3,none⟩=some (.int .i64 y.al)∧W.cell? ⟨b,o+4,none⟩=some (.int .i64 y.st)∧W.cell? ⟨b,o+5,none⟩=some (.slice By ny cy)∧W.cell? ⟨b,o+6,none⟩=some (.int .i64 z.al)∧W.cell? ⟨b,o+7,none⟩=some (.int .i64 z.st)∧W.cell? ⟨b,o+8,none⟩=some (.slice Bz nz cz):=fun W hW=>by
       exact yF07a8
      have hww:=cY w4;clear c1 c22 c32 c42 i k;refine uR (fun X=>Ext w4 X) [16] (zv.of [0,1,2,3,4,5,6,7,8,9,10,11,12,13,14,15,16,17,18]) ?_;exact yF07a10
    ·have hr:=za (show zaC [x,y,z] p f g=2 by
      unfold zaC;rw [a.out,V1.out,V2.out,hc1.out,hq2.out,decide_eq_false hE2]
      simp)
     have t:(f.al != (v:Int))=false:=by simp [hE1]
     have I:(g.al != E)=true:=by simp [hE2]
     clear hE1 hE2;exact yF07a6
   ·have hr:=za (show zaC [x,y,z] p f g=2 by
     unfold zaC;rw [a.out,V1.out,V2.out,hc1.out,hq2.out,decide_eq_false hE1]
     simp)
    have t:(f.al != (v:Int))=true:=by simp [hE1]
    clear hE1;exact yF07a6
  ·have s:=za (show (zh f&&zh g)=false by simpa using hV);have hr:=za (show zaC [x,y,z] p f g=1 by unfold zaC;rw [a.out,s.out];rfl);clear hV;cases h2:zh f<;>cases h3:zh g
   all_goals first
    |(exfalso;have:=s.out;rw [h2,h3] at this;cases this;done)
    |(have V1:=za h2
      have V2:=za h3;clear h2 h3
      go_enter Tryz.func24,Tryz.ntmps24
      go_upto_region 1 with fail
      generalize (w.alloc _).alloc _=w1 at *;have c1:=b1.cell;go_wp2_with (first
       |(go_at_call 56;refine (HCL.out _ hw1).mono ?_;rw [hc1.out,hq2.out];rintro e w2 ⟨rfl,hx2⟩;have hw2:=hw1.trans hx2;have c22:=(b2.ext hx2).cell)
       |(go_at_call 79;with_reducible refine (HF.out _ hw2).mono ?_;rw [V1.out];rintro e w3 ⟨rfl,hx3⟩;have hw3:=hw2.trans hx3;have c32:=(b2.ext (hx2.trans hx3)).cell)
       |(go_at_call 79;with_reducible refine (HG.out _ hw3).mono ?_;rw [V2.out];rintro e w4 ⟨rfl,hx4⟩;have hw4:=hw3.trans hx4;have c42:=(b2.ext (hx2.trans (hx3.trans hx4))).cell))
      go_ret;exact⟨zG (by rw [hr.out]),by first|exact hw4|exact hw3⟩)
theorem yF07a5 {P:Prop}(h:P:=by
 go_enter Tryz.func22,Tryz.ntmps22
 go_upto_region 1 with fail
 generalize (w.alloc _).alloc _=w1 at *;have c1:=b1.cell;go_wp2_with (first
  |(go_at_call 23;refine (HCL.out _ hw1).mono ?_;rw [hc1.out,hq2.out];rintro e w2 ⟨rfl,hx2⟩;have hw2:=hw1.trans hx2;have c22:=(b2.ext hx2).cell)
  |(go_at_call 25;with_reducible refine (HF.out _ hw2).mono ?_;rw [V1.out];rintro e w3 ⟨rfl,hx3⟩;have hw3:=hw2.trans hx3;have c32:=(b2.ext (hx2.trans hx3)).cell)
  |(go_at_call 25;with_reducible refine (HG.out _ hw3).mono ?_;rw [V2.out];rintro e w4 ⟨rfl,hx4⟩;have hw4:=hw3.trans hx4;have c42:=(b2.ext (hx2.trans (hx3.trans hx4))).cell))
 go_ret;exact⟨zG (by rw [hr.out]),hw4⟩
 ):P:=h
theorem impl_ChainFault (h:zcC w lo hi A n ss)(hp:zE w lo1 hi1 B m1 B' m1' p)(hf:zE w lo2 hi2 C m2 C' m2' f)(hg:zE w lo3 hi3 D m3 D' m3' g)(hT:Tab w) :
  Calls Tryz.prog 22 #[.slice A n c,.agg #[p.al,.slice B m1 d1,.slice B' m1' d1'],.agg #[f.al,.slice C m2 d2,.slice C' m2' d2',g.al,.slice D m3 d3,.slice D' m3' d3']] w fun e w'=>e=.returned (.int .i64 (zaC ss p f g))∧Ext w w':=by
 have HS:=za (fun W (hW:Ext w W)=>h.ext hW);have G:=za (fun W (hW:Ext w W)=>hp.ext hW);have m:=za (fun W (hW:Ext w W)=>hf.ext hW);have q:=za (fun W (hW:Ext w W)=>hg.ext hW);have H:=za (fun W (hW:Ext w W)=>hT.ext hW);have HCL:=za (fun W (hW:Ext w W)=>zeR (c:=c) (d:=d1) (d':=d1') (h.ext hW) (hp.ext hW));have HF:=za (fun W (hW:Ext w W)=>zy _ _ _ _ d2 _ _ d2' _ _ (hf.ext hW));have HG:=za (fun W (hW:Ext w W)=>zy _ _ _ _ d3 _ _ d3' _ _ (hg.ext hW));have M:=za h.1;clear h hp hf hg hT;have hw1:Ext w ((w.alloc (.cells #[p.al,.slice B m1 d1,.slice B' m1' d1'] 27)).alloc (.cells #[f.al,.slice C m2 d2,.slice C' m2' d2',g.al,.slice D m3 d3,.slice D' m3' d3'] 31)):=((cY w).alloc _).alloc _;obtain⟨b1,b2⟩:=zS (cY ((w.alloc (.cells #[p.al,.slice B m1 d1,.slice B' m1' d1'] 27)).alloc (.cells #[f.al,.slice C m2 d2,.slice C' m2' d2',g.al,.slice D m3 d3,.slice D' m3' d3'] 31)));cases hT:three ss p
 ·have hr:=za (show zaC ss p f g=1 by unfold zaC;rw [hT];rfl);have hc1:=za (show zW ss p = -1 by unfold zW;rw [hT];rfl);clear hT
  go_enter Tryz.func22,Tryz.ntmps22
  go_upto_region 1 with fail
  generalize (w.alloc _).alloc _=w1 at *;have c1:=b1.cell;go_wp2_with (go_at_call 23;refine (HCL.out _ hw1).mono ?_;rw [hc1.out];rintro e w2 ⟨rfl,hx2⟩)
  go_ret;exact⟨zG (by rw [hr.out]),hw1.trans hx2⟩
 ·obtain⟨x,y,z,rfl⟩:=zbw hT;obtain⟨v,u,Q⟩:=zca hT;obtain rfl:n=3:=M.out;have hc1:=za u;obtain⟨E,hq2⟩:∃ E:Int,Hid (zaM [x,y,z] p=E):=⟨_,rfl⟩;have a:=za hT;clear hT u M;have O:¬ (v:Int)<0:=oM;obtain⟨b,o,rfl,L⟩:∃ b o,A=some ⟨b,o,none⟩∧Hid (∃ (Bx By Bz:Option Addr) (nx_ ny nz cx cy cz:Nat),∀ W,Ext w W->(∀ j,W.cell? ⟨b,o+j,none⟩=#[Value.int .i64 x.al,.int .i64 x.st,.slice Bx nx_ cx,.int .i64 y.al,.int .i64 y.st,.slice By ny cy,.int .i64 z.al,.int .i64 z.st,.slice Bz nz cz][j]?∨9<=j)∧zR W lo hi Bx nx_ x∧zR W lo hi By ny y∧zR W lo hi Bz nz z):=by
   exact yF07a3
  by_cases hV:(zh f&&zh g)=true
  ·simp only [dF] at hV;have V1:=za hV.1;have V2:=za hV.2;clear hV
   by_cases hE1:f.al=(v:Int)
   ·by_cases hE2:g.al=E
    ·skip;have hr:=za (show zaC [x,y,z] p f g=if (zaz x f p&&zaz y g f)=false then 3 else if zat [z] g=false then 4 else 0 by
      unfold zaC;rw [a.out,V1.out,V2.out,hc1.out,hq2.out,decide_eq_true hE1,decide_eq_true hE2];rfl)
     have R:=za hE1;have S:=za hE2;have t:(f.al != (v:Int))=false:=by simp [hE1]
     have J:(g.al != E)=false:=by simp [hE2]
     clear hE1 hE2;obtain⟨Bx,By,Bz,nx_,ny,nz,cx,cy,cz,r⟩:=L.out;have HX2:=za r;clear L r;have HK1:=za (fun W (hW:Ext w W)=>zce (c:=cx) (d1:=d2) (d1':=d2') (d2:=d1) (d2':=d1') (HX2.out W hW).2.1 (m.out W hW) (G.out W hW) (H.out W hW));have HK2:=za (fun W (hW:Ext w W)=>zce (c:=cy) (d1:=d3) (d1':=d3') (d2:=d2) (d2':=d2') (HX2.out W hW).2.2.1 (q.out W hW) (m.out W hW) (H.out W hW));have HK3:=za (fun W (hW:Ext w W)=>zcn (c:=cz) (d2:=d3) (d2':=d3') (HX2.out W hW).2.2.2 (q.out W hW) (H.out W hW));generalize zaz x f p=U at *;generalize zaz y g f=V at *;generalize zat [z] g=Y at *;cases U
     rotate_left
     ·cases V
      rotate_left
      ·cases Y
       all_goals
        go_enter Tryz.func22,Tryz.ntmps22
        go_upto_region 1 with fail
        generalize (w.alloc _).alloc _=w1 at *;have c1:=b1.cell;go_upto_region 6 with (first
         |(go_at_call 23;refine (HCL.out _ hw1).mono ?_;rw [hc1.out,hq2.out];rintro e w2 ⟨rfl,hx2⟩;have hw2:=hw1.trans hx2;have c22:=(b2.ext hx2).cell)
         |(go_at_call 25;with_reducible refine (HF.out _ hw2).mono ?_;rw [V1.out];rintro e w3 ⟨rfl,hx3⟩;have hw3:=hw2.trans hx3;have c32:=(b2.ext (hx2.trans hx3)).cell)
         |(go_at_call 25;with_reducible refine (HG.out _ hw3).mono ?_;rw [V2.out];rintro e w4 ⟨rfl,hx4⟩;have hw4:=hw3.trans hx4;have c42:=(b2.ext (hx2.trans (hx3.trans hx4))).cell))
        have hx14:=hx2.trans (hx3.trans hx4);have i:=b1.ext hx14;have k:=b2.ext hx14;have I:=i.cells;have F:=k.cells;have l:∀ W,Ext w4 W->W.cell? ⟨b,o,none⟩=some (.int .i64 x.al)∧W.cell? ⟨b,o+1,none⟩=some (.int .i64 x.st)∧W.cell? ⟨b,o+2,none⟩=some (.slice Bx nx_ cx)∧W.cell? ⟨b,o+3,none⟩=some (.int .i64 y.al)∧W.cell? ⟨b,o+4,none⟩=some (.int .i64 y.st)∧W.cell? ⟨b,o+5,none⟩=some (.slice By ny cy)∧W.cell? ⟨b,o+6,none⟩=some (.int .i64 z.al)∧W.cell? ⟨b,o+7,none⟩=some (.int .i64 z.st)∧W.cell? ⟨b,o+8,none⟩=some (.slice Bz nz cz):=fun W hW=>by
         exact yF07a8
        have hww:=cY w4;clear c1 c22 c32 c42 i k;refine uR (fun X=>Ext w4 X) [16] (zv.of [0,1,2,3,4,5,6,7,8,9,10,11,12,13,14,15,16,17,18,19]) ?_;refine uQ ?_;refine zd fun K hK=>?_;go_simp;refine (HK1.out _ (hw4.trans hww.drew)).mono (mQ fun w5 hy0=>?_);have hy:=hww.drew.trans hy0;refine hK.out _ _ hy ?_;refine pT ?_;refine uQ ?_;refine zb fun K hK=>?_;go_simp;refine (HK2.out _ (hw4.trans hy)).mono (mQ fun w6 hy1=>?_);have hyy:=hy.trans hy1;refine hK.out _ _ ?_;refine pT ?_;refine uQ ?_;refine ze ?_;go_wp2_with fail
        have hyy0:=hyy;clear I F l hww;go_upto_region 8 with fail
        have T:∀ W,Ext w6 W->W.cell? ⟨b,o+6,none⟩=some (.int .i64 z.al)∧W.cell? ⟨b,o+7,none⟩=some (.int .i64 z.st)∧W.cell? ⟨b,o+8,none⟩=some (.slice Bz nz cz):=fun W hW=>by
         exact yF07a11
        have F:∀ W,Ext w6 W->∀ j,W.cell? ⟨w.heap.size+1,j,none⟩=#[Value.int .i64 f.al,.slice C m2 d2,.slice C' m2' d2',.int .i64 g.al,.slice D m3 d3,.slice D' m3' d3'][j]?:=fun W hW=>(b2.ext (hx14.trans (hyy0.trans hW))).cell;have hww:=cY w6;refine uR (fun X=>Ext w6 X) [5] (zv.of [0,1,2,3,4,5,6,7]) ?_;exact yF07a9
      ·go_enter Tryz.func22,Tryz.ntmps22
       go_upto_region 1 with fail
       generalize (w.alloc _).alloc _=w1 at *;have c1:=b1.cell;go_upto_region 6 with (first
        |(go_at_call 23;refine (HCL.out _ hw1).mono ?_;rw [hc1.out,hq2.out];rintro e w2 ⟨rfl,hx2⟩;have hw2:=hw1.trans hx2;have c22:=(b2.ext hx2).cell)
        |(go_at_call 25;with_reducible refine (HF.out _ hw2).mono ?_;rw [V1.out];rintro e w3 ⟨rfl,hx3⟩;have hw3:=hw2.trans hx3;have c32:=(b2.ext (hx2.trans hx3)).cell)
        |(go_at_call 25;with_reducible refine (HG.out _ hw3).mono ?_;rw [V2.out];rintro e w4 ⟨rfl,hx4⟩;have hw4:=hw3.trans hx4;have c42:=(b2.ext (hx2.trans (hx3.trans hx4))).cell))
       have hx14:=hx2.trans (hx3.trans hx4);have i:=b1.ext hx14;have k:=b2.ext hx14;have I:=i.cells;have F:=k.cells;have l:∀ W,Ext w4 W->W.cell? ⟨b,o,none⟩=some (.int .i64 x.al)∧W.cell? ⟨b,o+1,none⟩=some (.int .i64 x.st)∧W.cell? ⟨b,o+2,none⟩=some (.slice Bx nx_ cx)∧W.cell? ⟨b,o+3,none⟩=some (.int .i64 y.al)∧W.cell? ⟨b,o+4,none⟩=some (.int .i64 y.st)∧W.cell? ⟨b,o+5,none⟩=some (.slice By ny cy)∧W.cell? ⟨b,o+6,none⟩=some (.int .i64 z.al)∧W.cell? ⟨b,o+7,none⟩=some (.int .i64 z.st)∧W.cell? ⟨b,o+8,none⟩=some (.slice Bz nz cz):=fun W hW=>by
        exact yF07a8
       have hww:=cY w4;clear c1 c22 c32 c42 i k;refine uR (fun X=>Ext w4 X) [16] (zv.of [0,1,2,3,4,5,6,7,8,9,10,11,12,13,14,15,16,17,18,19]) ?_;exact yF07a7
     ·go_enter Tryz.func22,Tryz.ntmps22
      go_upto_region 1 with fail
      generalize (w.alloc _).alloc _=w1 at *;have c1:=b1.cell;go_upto_region 6 with (first
       |(go_at_call 23;refine (HCL.out _ hw1).mono ?_;rw [hc1.out,hq2.out];rintro e w2 ⟨rfl,hx2⟩;have hw2:=hw1.trans hx2;have c22:=(b2.ext hx2).cell)
       |(go_at_call 25;with_reducible refine (HF.out _ hw2).mono ?_;rw [V1.out];rintro e w3 ⟨rfl,hx3⟩;have hw3:=hw2.trans hx3;have c32:=(b2.ext (hx2.trans hx3)).cell)
       |(go_at_call 25;with_reducible refine (HG.out _ hw3).mono ?_;rw [V2.out];rintro e w4 ⟨rfl,hx4⟩;have hw4:=hw3.trans hx4;have c42:=(b2.ext (hx2.trans (hx3.trans hx4))).cell))
      have hx14:=hx2.trans (hx3.trans hx4);have i:=b1.ext hx14;have k:=b2.ext hx14;have I:=i.cells;have F:=k.cells;have l:∀ W,Ext w4 W->W.cell? ⟨b,o,none⟩=some (.int .i64 x.al)∧W.cell? ⟨b,o+1,none⟩=some (.int .i64 x.st)∧W.cell? ⟨b,o+2,none⟩=some (.slice Bx nx_ cx)∧W.cell? ⟨b,o+3,none⟩=some (.int .i64 y.al)∧W.cell? ⟨b,o+4,none⟩=some (.int .i64 y.st)∧W.cell? ⟨b,o+5,none⟩=some (.slice By ny cy)∧W.cell? ⟨b,o+6,none⟩=some (.int .i64 z.al)∧W.cell? ⟨b,o+7,none⟩=some (.int .i64 z.st)∧W.cell? ⟨b,o+8,none⟩=some (.slice Bz nz cz):=fun W hW=>by
       exact yF07a8
      have hww:=cY w4;clear c1 c22 c32 c42 i k;refine uR (fun X=>Ext w4 X) [16] (zv.of [0,1,2,3,4,5,6,7,8,9,10,11,12,13,14,15,16,17,18,19]) ?_;exact yF07a10
    ·have hr:=za (show zaC [x,y,z] p f g=2 by
      unfold zaC;rw [a.out,V1.out,V2.out,hc1.out,hq2.out,decide_eq_false hE2]
      simp)
     have t:(f.al != (v:Int))=false:=by simp [hE1]
     have J:(g.al != E)=true:=by simp [hE2]
     clear hE1 hE2;exact yF07a5
   ·have hr:=za (show zaC [x,y,z] p f g=2 by
     unfold zaC;rw [a.out,V1.out,V2.out,hc1.out,hq2.out,decide_eq_false hE1]
     simp)
    have t:(f.al != (v:Int))=true:=by simp [hE1]
    clear hE1;exact yF07a5
  ·have s:=za (show (zh f&&zh g)=false by simpa using hV);have hr:=za (show zaC [x,y,z] p f g=1 by unfold zaC;rw [a.out,s.out];rfl);clear hV;cases h2:zh f<;>cases h3:zh g
   all_goals first
    |(exfalso;have:=s.out;rw [h2,h3] at this;cases this;done)
    |(have V1:=za h2
      have V2:=za h3;clear h2 h3
      go_enter Tryz.func22,Tryz.ntmps22
      go_upto_region 1 with fail
      generalize (w.alloc _).alloc _=w1 at *;have c1:=b1.cell;go_wp2_with (first
       |(go_at_call 23;refine (HCL.out _ hw1).mono ?_;rw [hc1.out,hq2.out];rintro e w2 ⟨rfl,hx2⟩;have hw2:=hw1.trans hx2;have c22:=(b2.ext hx2).cell)
       |(go_at_call 25;with_reducible refine (HF.out _ hw2).mono ?_;rw [V1.out];rintro e w3 ⟨rfl,hx3⟩;have hw3:=hw2.trans hx3;have c32:=(b2.ext (hx2.trans hx3)).cell)
       |(go_at_call 25;with_reducible refine (HG.out _ hw3).mono ?_;rw [V2.out];rintro e w4 ⟨rfl,hx4⟩;have hw4:=hw3.trans hx4;have c42:=(b2.ext (hx2.trans (hx3.trans hx4))).cell))
      go_ret;exact⟨zG (by rw [hr.out]),by first|exact hw4|exact hw3⟩)
end
def iface (s:Sys) (p:Aut) (t:Sys):Int:=if (zj s&&(zh p&&zj t))=true then (((s.al.toNat|||p.al.toNat)&&&t.al.toNat:Nat):Int) else -1
section
variable {lo hi n c:Nat} {A:Option Addr} {s:Sys} {lo1 hi1 m1 d1 m1' d1':Nat} {B B':Option Addr} {p:Aut} {lo2 hi2 k c2:Nat} {C:Option Addr} {t:Sys} {w:World}
theorem zbU (h:zR w lo hi A n s)(hp:zE w lo1 hi1 B m1 B' m1' p)(ht:zR w lo2 hi2 C k t) :
  Calls Tryz.prog 95 #[.agg #[s.al,s.st,.slice A n c],.agg #[p.al,.slice B m1 d1,.slice B' m1' d1'],.agg #[t.al,t.st,.slice C k c2]] w fun e w'=>e=.returned (.int .i64 (iface s p t))∧Ext w w':=by
 have HS:=za (fun W (hW:Ext w W)=>zag (c:=c) (h.ext hW));have i:=za (fun W (hW:Ext w W)=>zA _ _ _ _ d1 _ _ d1' _ _ (hp.ext hW));have j:=za (fun W (hW:Ext w W)=>zag (c:=c2) (ht.ext hW));clear h hp ht;cases h1:zj s<;>cases h2:zh p<;>cases h3:zj t
 case true.true.true =>
  have H1:=za h1;have f:=za h2;have g:=za h3;have o:=zI h1;have q:=(zk h2).1;have r:=zI h3;obtain⟨a,l⟩:∃ a:Nat,Hid (s.al=a):=⟨s.al.toNat,by unfold Hid;omega⟩;obtain⟨b,hb⟩:∃ a:Nat,Hid (p.al=a):=⟨p.al.toNat,by unfold Hid;omega⟩;obtain⟨d,m⟩:∃ a:Nat,Hid (t.al=a):=⟨t.al.toNat,by unfold Hid;omega⟩;have hr:=za (show iface s p t=((((a|||b)&&&d:Nat)):Int) by unfold iface;rw [h1,h2,h3,l.out,hb.out,m.out];rfl);rw [l.out] at o;rw [hb.out] at q;rw [m.out] at r;have v:a<=63:=oM;have z:b<=63:=oM;have D:d<=63:=oM;have u:=eB (n:=6) (x:=a) (y:=b) oM oM;have F:=zaR (a:=a) (b:=b) tM tM;have E:=zbz (a:=a|||b) (b:=d) tM tM;clear h1 h2 h3 o q r u;rw [l.out] at HS ⊢;rw [hb.out] at i ⊢;rw [m.out] at j ⊢
  go_enter Tryz.func95,Tryz.ntmps95
  go_upto_region 1 with fail
  generalize U0:((w.alloc _).alloc _).alloc _=w1 at *;obtain⟨hw1,b1,b2,b3⟩:=Ext.x3_ U0;clear U0;have c1:=b1.cell;go_wp2_with (first
   |(go_at_call 185;with_reducible refine (HS.out _ hw1).mono ?_;rw [H1.out];rintro e w2 ⟨rfl,hx2⟩;have hw2:=hw1.trans hx2;have c2:=(b2.ext hx2).cell)
   |(go_at_call 79;with_reducible refine (i.out _ hw2).mono ?_;rw [f.out];rintro e w3 ⟨rfl,hx3⟩;have hw3:=hw2.trans hx3;have c3:=(b3.ext (hx2.trans hx3)).cell)
   |(go_at_call 185;with_reducible refine (j.out _ hw3).mono ?_;rw [g.out];rintro e w4 ⟨rfl,hx4⟩;have hw4:=hw3.trans hx4;have G:=(b1.ext (hx2.trans (hx3.trans hx4))).cell;have H:=(b2.ext (hx2.trans (hx3.trans hx4))).cell;have I:=(b3.ext (hx2.trans (hx3.trans hx4))).cell))
  go_ret;exact⟨zG (by rw [hr.out]),hw4⟩
 all_goals
  have hr:=za (show iface s p t = -1 by unfold iface;rw [h1,h2,h3];rfl);have H1:=za h1;have f:=za h2;have g:=za h3;clear h1 h2 h3
  go_enter Tryz.func95,Tryz.ntmps95
  go_upto_region 1 with fail
  generalize U0:((w.alloc _).alloc _).alloc _=w1 at *;obtain⟨hw1,b1,b2,b3⟩:=Ext.x3_ U0;clear U0;have c1:=b1.cell;go_wp2_with (first
   |(go_at_call 185;with_reducible refine (HS.out _ hw1).mono ?_;rw [H1.out];rintro e w2 ⟨rfl,hx2⟩;have hw2:=hw1.trans hx2;have c2:=(b2.ext hx2).cell)
   |(go_at_call 79;with_reducible refine (i.out _ hw2).mono ?_;rw [f.out];rintro e w3 ⟨rfl,hx3⟩;have hw3:=hw2.trans hx3;have c3:=(b3.ext (hx2.trans hx3)).cell)
   |(go_at_call 185;with_reducible refine (j.out _ hw3).mono ?_;rw [g.out];rintro e w4 ⟨rfl,hx4⟩;have hw4:=hw3.trans hx4))
  go_ret;exact⟨zG (by rw [hr.out]),by first|exact hw4|exact hw3|exact hw2⟩
theorem zfn (h:zR w lo hi A n s)(hp:zE w lo1 hi1 B m1 B' m1' p)(ht:zR w lo2 hi2 C k t) :
  Calls Tryz.prog 83 #[.agg #[s.al,s.st,.slice A n c],.agg #[p.al,.slice B m1 d1,.slice B' m1' d1'],.agg #[t.al,t.st,.slice C k c2]] w fun e w'=>e=.returned (.int .i64 (iface s p t))∧Ext w w':=by
 have HS:=za (fun W (hW:Ext w W)=>zaN (c:=c) (h.ext hW));have i:=za (fun W (hW:Ext w W)=>zy _ _ _ _ d1 _ _ d1' _ _ (hp.ext hW));have j:=za (fun W (hW:Ext w W)=>zaN (c:=c2) (ht.ext hW));clear h hp ht;cases h1:zj s<;>cases h2:zh p<;>cases h3:zj t
 case true.true.true =>
  have H1:=za h1;have f:=za h2;have g:=za h3;have o:=zI h1;have q:=(zk h2).1;have r:=zI h3;obtain⟨a,l⟩:∃ a:Nat,Hid (s.al=a):=⟨s.al.toNat,by unfold Hid;omega⟩;obtain⟨b,hb⟩:∃ a:Nat,Hid (p.al=a):=⟨p.al.toNat,by unfold Hid;omega⟩;obtain⟨d,m⟩:∃ a:Nat,Hid (t.al=a):=⟨t.al.toNat,by unfold Hid;omega⟩;have hr:=za (show iface s p t=((((a|||b)&&&d:Nat)):Int) by unfold iface;rw [h1,h2,h3,l.out,hb.out,m.out];rfl);rw [l.out] at o;rw [hb.out] at q;rw [m.out] at r;have v:a<=63:=oM;have z:b<=63:=oM;have D:d<=63:=oM;have u:=eB (n:=6) (x:=a) (y:=b) oM oM;have F:=zaR (a:=a) (b:=b) tM tM;have E:=zbz (a:=a|||b) (b:=d) tM tM;clear h1 h2 h3 o q r u;rw [l.out] at HS ⊢;rw [hb.out] at i ⊢;rw [m.out] at j ⊢
  go_enter Tryz.func83,Tryz.ntmps83
  go_upto_region 1 with fail
  generalize U0:((w.alloc _).alloc _).alloc _=w1 at *;obtain⟨hw1,b1,b2,b3⟩:=Ext.x3_ U0;clear U0;have c1:=b1.cell;go_wp2_with (first
   |(go_at_call 65;with_reducible refine (HS.out _ hw1).mono ?_;rw [H1.out];rintro e w2 ⟨rfl,hx2⟩;have hw2:=hw1.trans hx2;have c2:=(b2.ext hx2).cell)
   |(go_at_call 25;with_reducible refine (i.out _ hw2).mono ?_;rw [f.out];rintro e w3 ⟨rfl,hx3⟩;have hw3:=hw2.trans hx3;have c3:=(b3.ext (hx2.trans hx3)).cell)
   |(go_at_call 65;with_reducible refine (j.out _ hw3).mono ?_;rw [g.out];rintro e w4 ⟨rfl,hx4⟩;have hw4:=hw3.trans hx4;have G:=(b1.ext (hx2.trans (hx3.trans hx4))).cell;have H:=(b2.ext (hx2.trans (hx3.trans hx4))).cell;have I:=(b3.ext (hx2.trans (hx3.trans hx4))).cell))
  go_ret;exact⟨zG (by rw [hr.out]),hw4⟩
 all_goals
  have hr:=za (show iface s p t = -1 by unfold iface;rw [h1,h2,h3];rfl);have H1:=za h1;have f:=za h2;have g:=za h3;clear h1 h2 h3
  go_enter Tryz.func83,Tryz.ntmps83
  go_upto_region 1 with fail
  generalize U0:((w.alloc _).alloc _).alloc _=w1 at *;obtain⟨hw1,b1,b2,b3⟩:=Ext.x3_ U0;clear U0;have c1:=b1.cell;go_wp2_with (first
   |(go_at_call 65;with_reducible refine (HS.out _ hw1).mono ?_;rw [H1.out];rintro e w2 ⟨rfl,hx2⟩;have hw2:=hw1.trans hx2;have c2:=(b2.ext hx2).cell)
   |(go_at_call 25;with_reducible refine (i.out _ hw2).mono ?_;rw [f.out];rintro e w3 ⟨rfl,hx3⟩;have hw3:=hw2.trans hx3;have c3:=(b3.ext (hx2.trans hx3)).cell)
   |(go_at_call 65;with_reducible refine (j.out _ hw3).mono ?_;rw [g.out];rintro e w4 ⟨rfl,hx4⟩;have hw4:=hw3.trans hx4))
  go_ret;exact⟨zG (by rw [hr.out]),by first|exact hw4|exact hw3|exact hw2⟩
end
theorem ext_blk4 {w':World} {ds es fs:Array Value} {u v x:TypeId}(h:Ext ((((w.alloc (.cells cs t)).alloc (.cells ds u)).alloc (.cells es v)).alloc (.cells fs x)) w'):Blk w' w.heap.size t cs∧Blk w' (w.heap.size+1) u ds∧Blk w' (w.heap.size+1+1) v es∧Blk w' (w.heap.size+1+1+1) x fs:=by
 have a:=zaa (((cY _).alloc _).trans h);refine⟨a.1,a.2.1,a.2.2,?_⟩;have:=zbA h;simpa using this
noncomputable def zes (s t:Sys) (p a:Aut):Int:=if iface s p t<0∨zh a=false then 1 else if a.al≠iface s p t then 2 else if zaz s a p=false then 3 else if zat [t] a=false then 4 else 0
section
variable {lo hi n c:Nat} {A:Option Addr} {s:Sys} {lo1 hi1 m1 d1 m1' d1':Nat} {B B':Option Addr} {p:Aut} {lo2 hi2 k c2:Nat} {C:Option Addr} {t:Sys} {w:World}
variable {lo3 hi3 m2 d2 m2' d2':Nat} {D D':Option Addr} {a:Aut}
theorem yF07a1 {P:Prop}(h:P:=by
 go_enter Tryz.func98,Tryz.ntmps98
 go_upto_region 1 with fail
 generalize (((w.alloc _).alloc _).alloc _).alloc _=w1 at *;have c1:=b1.cell;have c2:=b2.cell;have c3:=b3.cell;go_wp2_with (first
  |(go_at_call 95;with_reducible refine (HI.out _ hw1).mono (mQ fun w2 hx2=>?_);have hw2:=hw1.trans hx2;have c42:=(b4.ext hx2).cell)
  |(go_at_call 79;with_reducible refine (HA.out _ hw2).mono ?_;rw [H1.out];rintro e w3 ⟨rfl,hx3⟩;have hx13:=hx2.trans hx3;have hw3:=hw1.trans hx13;have c13:=(b1.ext hx13).cell;have c33:=(b3.ext hx13).cell;have c43:=(b4.ext hx13).cell)
  |(go_at_call 80;with_reducible refine (HU.out _ hw3).mono (mQ fun w4 hx4=>?_);have hx14:=hx13.trans hx4;have hw4:=hw1.trans hx14;have c24:=(b2.ext hx14).cell;have c44:=(b4.ext hx14).cell)
  |(go_at_call 81;with_reducible refine (HK.out _ hw4).mono (mQ fun w5 hx5=>?_);have hw5:=hw4.trans hx5))
 go_ret;exact⟨zG (by rw [hr.out];try rfl),by first|exact hw5|exact hw4|exact hw3|exact hw2⟩
 ):P:=h
theorem spec_AssumptionFault (h:zR w lo hi A n s)(ht:zR w lo2 hi2 C k t)(hp:zE w lo1 hi1 B m1 B' m1' p)(ha:zE w lo3 hi3 D m2 D' m2' a) :
  Calls Tryz.prog 98 #[.agg #[s.al,s.st,.slice A n c],.agg #[t.al,t.st,.slice C k c2],.agg #[p.al,.slice B m1 d1,.slice B' m1' d1'],.agg #[a.al,.slice D m2 d2,.slice D' m2' d2']] w fun e w'=>e=.returned (.int .i64 (zes s t p a))∧Ext w w':=by
 have HI:=za (fun W (hW:Ext w W)=>zbU (c:=c) (d1:=d1) (d1':=d1') (c2:=c2) (h.ext hW) (hp.ext hW) (ht.ext hW));have HA:=za (fun W (hW:Ext w W)=>zA _ _ _ _ d2 _ _ d2' _ _ (ha.ext hW));have HU:=za (fun W (hW:Ext w W)=>zch (c:=c) (d1:=d2) (d1':=d2') (d2:=d1) (d2':=d1') (h.ext hW) (ha.ext hW) (hp.ext hW));have HK:=za (fun W (hW:Ext w W)=>zcv (c:=c2) (d2:=d2) (d2':=d2') (ht.ext hW) (ha.ext hW));have hr:=za (show zes s t p a=if iface s p t<0∨zh a=false then 1 else if a.al≠iface s p t then 2 else if zaz s a p=false then 3 else if zat [t] a=false then 4 else 0 from rfl);clear h hp ht ha;have hw1:Ext w ((((w.alloc (.cells #[s.al,s.st,.slice A n c] 38)).alloc (.cells #[t.al,t.st,.slice C k c2] 38)).alloc (.cells #[p.al,.slice B m1 d1,.slice B' m1' d1'] 27)).alloc (.cells #[a.al,.slice D m2 d2,.slice D' m2' d2'] 27)):=((((cY w).alloc _).alloc _).alloc _).alloc _;obtain⟨b1,b2,b3,b4⟩:=ext_blk4 (cY ((((w.alloc (.cells #[s.al,s.st,.slice A n c] 38)).alloc (.cells #[t.al,t.st,.slice C k c2] 38)).alloc (.cells #[p.al,.slice B m1 d1,.slice B' m1' d1'] 27)).alloc (.cells #[a.al,.slice D m2 d2,.slice D' m2' d2'] 27)));generalize iface s p t=I at *;generalize zaz s a p=u at *;generalize zat [t] a=v at *
 by_cases hI:I<0
 ·rw [if_pos (Or.inl hI)] at hr;obtain⟨y,H1⟩:∃ y,Hid (zh a=y):=⟨_,rfl⟩;have g:=za hI;exact yF07a1
 have b:¬ I<0:=hI;have f:0<=I:=oM;clear hI;cases h1:zh a
 ·rw [h1,if_pos (Or.inr rfl)] at hr;have H1:=za h1;clear h1;exact yF07a1
 rw [h1,if_neg (by rintro (h|h);exact b h;cases h)] at hr;have H1:=za h1;clear h1
 by_cases h2:a.al=I
 ·rw [if_neg (fun hn=>hn h2)] at hr;subst h2;cases u<;>cases v
  all_goals
   have i:=za (rfl:true=true);have j:=za (rfl:true=true);exact yF07a1
 ·rw [if_pos h2] at hr;have d:(a.al==I)=false:=by simpa using h2
  exact yF07a1
theorem yF07a2 {P:Prop}(h:P:=by
 go_enter Tryz.func29,Tryz.ntmps29
 go_upto_region 1 with fail
 generalize (((w.alloc _).alloc _).alloc _).alloc _=w1 at *;have c1:=b1.cell;have c2:=b2.cell;have c3:=b3.cell;go_wp2_with (first
  |(go_at_call 83;with_reducible refine (HI.out _ hw1).mono (mQ fun w2 hx2=>?_);have hw2:=hw1.trans hx2;have c42:=(b4.ext hx2).cell)
  |(go_at_call 25;with_reducible refine (HA.out _ hw2).mono ?_;rw [H1.out];rintro e w3 ⟨rfl,hx3⟩;have hx13:=hx2.trans hx3;have hw3:=hw1.trans hx13;have c13:=(b1.ext hx13).cell;have c33:=(b3.ext hx13).cell;have c43:=(b4.ext hx13).cell)
  |(go_at_call 26;with_reducible refine (HU.out _ hw3).mono (mQ fun w4 hx4=>?_);have hx14:=hx13.trans hx4;have hw4:=hw1.trans hx14;have c24:=(b2.ext hx14).cell;have c44:=(b4.ext hx14).cell)
  |(go_at_call 27;with_reducible refine (HK.out _ hw4).mono (mQ fun w5 hx5=>?_);have hw5:=hw4.trans hx5))
 go_ret;exact⟨zG (by rw [hr.out];try rfl),by first|exact hw5|exact hw4|exact hw3|exact hw2⟩
 ):P:=h
theorem impl_AssumptionFault (h:zR w lo hi A n s)(ht:zR w lo2 hi2 C k t)(hp:zE w lo1 hi1 B m1 B' m1' p)(ha:zE w lo3 hi3 D m2 D' m2' a)(hT:Tab w) :
  Calls Tryz.prog 29 #[.agg #[s.al,s.st,.slice A n c],.agg #[t.al,t.st,.slice C k c2],.agg #[p.al,.slice B m1 d1,.slice B' m1' d1'],.agg #[a.al,.slice D m2 d2,.slice D' m2' d2']] w fun e w'=>e=.returned (.int .i64 (zes s t p a))∧Ext w w':=by
 have HI:=za (fun W (hW:Ext w W)=>zfn (c:=c) (d1:=d1) (d1':=d1') (c2:=c2) (h.ext hW) (hp.ext hW) (ht.ext hW));have HA:=za (fun W (hW:Ext w W)=>zy _ _ _ _ d2 _ _ d2' _ _ (ha.ext hW));have HU:=za (fun W (hW:Ext w W)=>zce (c:=c) (d1:=d2) (d1':=d2') (d2:=d1) (d2':=d1') (h.ext hW) (ha.ext hW) (hp.ext hW) (hT.ext hW));have HK:=za (fun W (hW:Ext w W)=>zcn (c:=c2) (d2:=d2) (d2':=d2') (ht.ext hW) (ha.ext hW) (hT.ext hW));have hr:=za (show zes s t p a=if iface s p t<0∨zh a=false then 1 else if a.al≠iface s p t then 2 else if zaz s a p=false then 3 else if zat [t] a=false then 4 else 0 from rfl);clear h hp ht ha;have hw1:Ext w ((((w.alloc (.cells #[s.al,s.st,.slice A n c] 38)).alloc (.cells #[t.al,t.st,.slice C k c2] 38)).alloc (.cells #[p.al,.slice B m1 d1,.slice B' m1' d1'] 27)).alloc (.cells #[a.al,.slice D m2 d2,.slice D' m2' d2'] 27)):=((((cY w).alloc _).alloc _).alloc _).alloc _;obtain⟨b1,b2,b3,b4⟩:=ext_blk4 (cY ((((w.alloc (.cells #[s.al,s.st,.slice A n c] 38)).alloc (.cells #[t.al,t.st,.slice C k c2] 38)).alloc (.cells #[p.al,.slice B m1 d1,.slice B' m1' d1'] 27)).alloc (.cells #[a.al,.slice D m2 d2,.slice D' m2' d2'] 27)));generalize iface s p t=I at *;generalize zaz s a p=u at *;generalize zat [t] a=v at *
 by_cases hI:I<0
 ·rw [if_pos (Or.inl hI)] at hr;obtain⟨y,H1⟩:∃ y,Hid (zh a=y):=⟨_,rfl⟩;have g:=za hI;exact yF07a2
 have b:¬ I<0:=hI;have f:0<=I:=oM;clear hI;cases h1:zh a
 ·rw [h1,if_pos (Or.inr rfl)] at hr;have H1:=za h1;clear h1;exact yF07a2
 rw [h1,if_neg (by rintro (h|h);exact b h;cases h)] at hr;have H1:=za h1;clear h1
 by_cases h2:a.al=I
 ·rw [if_neg (fun hn=>hn h2)] at hr;subst h2;cases u<;>cases v
  all_goals
   have i:=za (rfl:true=true);have j:=za (rfl:true=true);exact yF07a2
 ·rw [if_pos h2] at hr;have d:(a.al==I)=false:=by simpa using h2
  exact yF07a2
end
def wl (s:ByteArray):List Nat:=s.data.toList.map fun b=>b.toNat - 97
theorem zgq (s:ByteArray):(wl s).length=s.size:=by simp [wl]
theorem zeL (hk:k<s.size):(wl s)[k]?=some (s[k].toNat - 97):=by
 unfold wl;rw [dQ,zbX s k hk];rfl
theorem zbi (h:zbF s=true) (hk:k<s.size):97<=s[k].toNat∧s[k].toNat<=102:=by
 unfold zbF at h;simp only [dF,eC] at h;have:=h.2 s[k] (dB (zbX s k hk));simp only [zdr,decide_eq_true_eq] at this;omega
theorem zaX (h:zbF s=true):s.size<=50000:=by
 unfold zbF at h;simp only [dF,decide_eq_true_eq] at h;exact h.1
theorem wl_lt (h:zbF s=true):∀ l∈wl s,l<6:=by
 intro l hl;obtain⟨k,hk⟩:=dX hl;have a:=(List.getElem?_eq_some_iff.1 hk).1;rw [zgq] at a;rw [zeL a] at hk;have:=zbi h a;have:=Option.some.inj hk;omega
def alB (ls:List Nat):Nat:=ls.foldl (fun u l=>u|||2 ^ l) 0
theorem alB_snoc (ls:List Nat) (l:Nat):alB (ls++[l])=alB ls|||2 ^ l:=by simp [alB]
theorem zfL (ls:List Nat) (k:Nat):(alB ls).testBit k=true↔k∈ls:=by
 have a:∀ (ls:List Nat) (u:Nat),(ls.foldl (fun u l=>u|||2 ^ l) u).testBit k=true↔u.testBit k=true∨k∈ls:=by
  intro ls
  induction ls with
  |nil=>intro u;simp
  |cons l r ih =>
   intro u;rw [List.foldl_cons,ih,gU,Nat.testBit_two_pow,gA,decide_eq_true_eq,List.mem_cons];constructor
   ·rintro ((h|h)|h)
    ·exact Or.inl h
    ·exact Or.inr (Or.inl h.symm)
    ·exact Or.inr (Or.inr h)
   ·rintro (h|h|h)
    ·exact Or.inl (Or.inl h)
    ·exact Or.inl (Or.inr h.symm)
    ·exact Or.inr h
 have:=a ls 0;simpa [alB] using this
theorem alB_lt (h:∀ l∈ls,l<6):alB ls<64:=Nat.lt_pow_two_of_testBit (n:=6) _ fun k hk=>by
 rw [eT]
 intro hb
 have:=h k ((zfL ls k).1 hb)
 omega
def inB (s:ByteArray) (a:Nat):Bool:=decide (s.size<=50000)&&overB s a
theorem zbj (h:inB s a=true):zbF s=true:=by
 unfold inB at h;simp only [dF,decide_eq_true_eq] at h;unfold zbF;simp only [dF,decide_eq_true_eq];refine⟨h.1,?_⟩;rw [eC];intro b hb;have c:=h.2;unfold overB at c;rw [eC] at c;have d:=c b hb;unfold hasB ltr at d;simp only [dF,decide_eq_true_eq] at d;unfold zdr;rw [decide_eq_true_eq];have f:=d.1
 split at f<;>omega
theorem inB_iff :inB s a=true↔zbF s=true∧alB (wl s)&&&a=alB (wl s):=by
 constructor
 ·intro h;have f:=zbj h;refine⟨f,Nat.eq_of_testBit_eq fun k=>?_⟩;rw [iF];cases hk:(alB (wl s)).testBit k
  ·rfl
  ·rw [Bool.true_and];have hm:=(zfL _ k).1 hk;obtain⟨i,d⟩:=dX hm;have c:=(List.getElem?_eq_some_iff.1 d).1;rw [zgq] at c;rw [zeL c] at d;have hb:=zbi f c;have e:=Option.some.inj d;unfold inB overB at h;simp only [dF,eC] at h;have:=h.2 s[i] (dB (zbX s i c));unfold hasB ltr at this;rw [if_neg oM] at this;simp only [dF] at this;rw [← e,← this.2]
   congr 1
   omega
 ·rintro ⟨f,h⟩;unfold inB;simp only [dF,decide_eq_true_eq];refine⟨zaX f,?_⟩;unfold overB;rw [eC];intro b hb;obtain⟨i,d⟩:=dX hb;have c:i<s.size:=by have:=(List.getElem?_eq_some_iff.1 d).1;simpa using this
  rw [zbX s i c] at d;obtain rfl:=Option.some.inj d;have g:=zbi f c;unfold hasB ltr;rw [if_neg oM];have hm:(alB (wl s)).testBit (s[i].toNat - 97)=true:=(zfL _ _).2 (dB (zeL c));rw [← h,iF,dF] at hm;simp only [dF,decide_eq_true_eq];refine⟨oM,?_⟩;rw [show ((s[i].toNat:Int) - 97).toNat=s[i].toNat - 97 by omega];exact hm.2
theorem zdu (hs:s.size<=9223372036854775807) :
  Calls Tryz.prog 222 #[s] w fun e w'=>e=.returned (.tuple #[.int .i64 (if zbF s=true then alB (wl s) else 0:Nat),.bool (zbF s)])∧w=w':=by
 cases hw:zbF s
 ·have f:=za hw;clear hw
  go_enter Tryz.func222,Tryz.ntmps222
  go_wp2_with (go_at_call 141;refine (zcA s _ hs).mono ?_;rw [f.out];rintro e w' ⟨rfl,rfl⟩)
  go_ret2;exact⟨rfl,rfl⟩
 ·have p:=zaX hw;have o:=za (fun k hk=>zbi hw (k:=k) hk);have r:=za (wl_lt hw);have f:=za hw;clear hw
  go_enter Tryz.func222,Tryz.ntmps222
  go_wp2_with (go_at_call 141;refine (zcA s _ hs).mono ?_;rw [f.out];rintro e w' ⟨rfl,rfl⟩)
  go_loop [4,5] (fun v i=>∃ k u:Nat,k<=s.size∧i=.int .i64 k∧v=.int .i64 u∧u<64∧Hid (u=alB ((wl s).take k))) (fun _ i=>s.size - (intOf i).toNat)
  case atStart=>exact⟨0,0,dG _,rfl,rfl,oM,rfl⟩
  case round =>
   obtain⟨k,u,hk,rfl,rfl,q,d⟩:=hrel
   by_cases hlt:k<s.size
   ·have g:=o.out k hlt;obtain⟨l,h⟩:∃ l:Nat,Hid ((s[k].toNat:Int) - 97=l):=⟨s[k].toNat - 97,by unfold Hid;omega⟩;have j:l<6:=oH h.out;have m:=za (show alB ((wl s).take (k+1))=u|||2 ^ l by
     rw [dJ,zeL hlt,eG,alB_snoc,← d.out]
     congr 2
     have:=h.out;omega)
    have c:=za (show bits .or .i64 (u:Nat) ((2:Int) ^ l)=((u|||2 ^ l:Nat):Int) by
     have:=zaR (a:=u) tM (Sm.bit (n:=l) oM);rw [show (((2:Nat) ^ l:Nat):Int)=(2:Int) ^ l by simp] at this;exact this)
    have b:u|||2 ^ l<64:=eB (n:=6) q (Nat.pow_lt_pow_right oM j)
    have t:=c.out;clear g;go_wp2_with (first
     |(go_at_call 144;refine (zbf s k hlt _).mono ?_;rw [h.out];rintro e w' ⟨rfl,rfl⟩)
     |(go_at_call 270;refine (zeY l oM _).mono ?_;rintro e w' ⟨rfl,rfl⟩))
    go_round
    case rel=>exact⟨k+1,u|||2 ^ l,oM,gM,by first|rfl|rw [c.out],b,m.symm⟩
    case measure=>simp [intOf];omega
   ·obtain rfl:k=s.size:=oM;have zhG:=za (show u=alB (wl s) by rw [d.out,dI (by rw [zgq];exact dD _)]);go_wp2;go_ret2;exact⟨by rw [zhG.out];rfl,rfl⟩
theorem zaH (hs:s.size<=9223372036854775807)(ha:a<=63) :
  Calls Tryz.prog 146 #[s,a] w fun e w'=>e=.returned (.bool (inB s a))∧w=w':=by
 have d:=za (show (decide ((0:Int)<=a∧(a:Int)<=63))=true by simp;omega);cases hw:zbF s
 ·have hr:=za (show inB s a=false by
   rw [eT];intro h;rw [zbj h] at hw;cases hw)
  have c:=za hw;clear hw
  go_enter Tryz.func146,Tryz.ntmps146
  go_wp2_with (go_at_call 222;refine (zdu hs).mono ?_;rw [c.out];rintro e w' ⟨rfl,rfl⟩)
  go_ret;exact⟨zl (by rw [hr.out]),rfl⟩
 ·obtain⟨u,g⟩:∃ u,Hid (alB (wl s)=u):=⟨_,rfl⟩;have i:u<64:=by rw [← g.out];exact alB_lt (wl_lt hw)
  have f:=za (zbz (a:=u) (b:=a) tM tM);have hb:=f.out;have hr:=za (show inB s a=(((u&&&a:Nat):Int)==(u:Int)) by
   rw [Bool.eq_iff_iff,inB_iff,g.out,beq_iff_eq];constructor
   ·rintro ⟨_,h⟩;rw [h]
   ·intro h;exact⟨hw,oM⟩)
  have c:=za hw;clear hw
  go_enter Tryz.func146,Tryz.ntmps146
  go_wp2_with (first
   |(go_at_call 222;refine (zdu hs).mono ?_;rw [c.out,if_pos rfl,g.out];rintro e w' ⟨rfl,rfl⟩)
   |(go_at_call 142;refine (zN _ _).mono ?_;rw [d.out];rintro e w' ⟨rfl,rfl⟩))
  go_ret;exact⟨zl (by rw [hr.out]),rfl⟩
def bnum (bs:List UInt8):List Int:=bs.map fun b=>(b.toNat:Int)
def bcl (bs:List UInt8):List Value:=(bnum bs).map (Value.int .u8)
theorem bcl_length (bs:List UInt8):(bcl bs).length=bs.length:=by simp [bcl,bnum]
def zgv (a:Nat) (bs:List UInt8):List UInt8:=bs.filter fun b=>hasB a (ltr b.toNat)
def zbc (s:ByteArray) (a:Nat):ByteArray:=strOfNums (bnum (zgv a s.data.toList))
theorem keepL_take (hk:k<s.size):zgv a (s.data.toList.take (k+1))=zgv a (s.data.toList.take k)++if hasB a (ltr s[k].toNat)=true then [s[k]] else []:=by
 rw [dJ,zbX s k hk,eG];unfold zgv;rw [List.filter_append]
 congr 1
 cases h:hasB a (ltr s[k].toNat)<;>simp [h]
theorem keepL_len (s:ByteArray) (a k:Nat):(zgv a (s.data.toList.take k)).length<=s.size:=by
 refine dK (List.length_filter_le _ _) ?_;rw [eK];have:s.data.toList.length=s.size:=sM;omega
theorem conv_own {bs:List UInt8}(h:W.ownsRow base 5 1 (.slice A n cap) n (bcl bs)) :
  (convert 22 9 (.slice A n cap)).run Tryz.prog W=.ok (.string (strOfNums (bnum bs))) W:=by
 have d:bs.length=n:=by have:=zeS h;rw [bcl_length] at this;omega
 rcases h.2 with ⟨a,j⟩|⟨g,c,f,a,_⟩
 ·injection a with a h3 h4
  subst a;subst h3;subst h4;obtain rfl:bs=[]:=dT d;exact run_convert_bytes_nil (P:=Tryz.prog) W 22 5 u8_row u8_und _ _ _ zhx
 ·injection a with a
  subst a;refine run_convert_bytes_arg (P:=Tryz.prog) W 22 5 u8_row u8_und g 0 n cap (bnum bs) (by simp [bnum,d]) (fun i hi=>?_) _ zhx;rw [dP,h.cellAt i oM];unfold bcl;rw [dQ];have b:i<(bnum bs).length:=by simp [bnum];omega
  rw [dC b];simp [List.getD,dC b]
theorem own_u8_lit (w:World):(w.alloc (.cells #[] 5)).ownsRow w.heap.size 5 1 (.slice (some w.heap.size) 0 0) 0 (bcl []):=World.ownsRow_lit w #[] 0 (dD _) lM rfl
theorem zaG (hw:zbF s=true)(ha:a<=63) :
  Calls Tryz.prog 60 #[s,a] w fun e w'=>e=.returned (.string (zbc s a))∧Ext w w':=by
 have q:=za (show (decide ((0:Int)<=a∧(a:Int)<=63))=true by simp;omega);have C:=zaX hw;have x:=za (fun k hk=>zbi hw (k:=k) hk);have y:=za hw;clear hw
 go_enter Tryz.func60,Tryz.ntmps60
 go_upto_region 3 with (first
  |(go_at_call 141;refine (zcA s _ oM).mono ?_;rw [y.out];rintro e w' ⟨rfl,rfl⟩)
  |(go_at_call 142;refine (zN _ _).mono ?_;rw [q.out];rintro e w' ⟨rfl,rfl⟩))
 go_upto_region 4 with fail
 have f:=own_u8_lit w;have hx0:=(cY w).alloc (.cells #[] 5);generalize hA0:(some ⟨w.heap.size,0,none⟩:Option Addr)=D at *;clear hA0;generalize w.alloc _=G at *;go_wp2_with fail
 go_loopw [5,6] (fun v i wr=>∃ (k:Nat) (d:List UInt8),k<=s.size∧i=.int .i64 k∧wr.ownsRow w.heap.size 5 1 v d.length (bcl d)∧Hid (d=zgv a (s.data.toList.take k))∧d.length<=50000∧Ext w wr) (fun _ i _=>s.size - (intOf i).toNat)
 case atStart=>exact⟨0,[],dG _,rfl,f,rfl,sM,hx0⟩
 case round =>
  clear f hx0;obtain⟨k,d,hk,rfl,g,m,r,hx⟩:=hrel
  by_cases hlt:k<s.size
  ·have z:=x.out k hlt;obtain⟨l,n⟩:∃ l:Nat,Hid ((s[k].toNat:Int) - 97=l):=⟨s[k].toNat - 97,by unfold Hid;omega⟩;have j:=za (show hasB a (ltr s[k].toNat)=a.testBit l by
    unfold hasB ltr;have:=n.out;rw [if_neg oM,this]
    simp)
   have p:=za (keepL_take (a:=a) hlt);have B:=keepL_len s a (k+1);have h:Sm a:=tM;have u:=za (show s.data.toList[k]?=some s[k] from zbX s k hlt);cases hb:a.testBit l
   ·have c:=za hb;have b:=za (show d=zgv a (s.data.toList.take (k+1)) by rw [p.out,j.out,c.out,m.out];simp);clear hb;go_wp2_with (first
     |(go_at_call 144;refine (zbf s k hlt _).mono ?_;rw [n.out];rintro e w' ⟨rfl,rfl⟩)
     |(go_at_call 143;refine (zae a l h _ (oH n.out)).mono ?_;rw [c.out];rintro e w' ⟨rfl,rfl⟩))
    go_roundw
    case rel=>exact⟨k+1,d,oM,gM,g,b,r,hx⟩
    case measure=>simp [intOf];omega
   ·have c:=za hb;have b:=za (show d++[s[k]]=zgv a (s.data.toList.take (k+1)) by rw [p.out,j.out,c.out,m.out];simp);have o:(d++[s[k]]).length<=50000:=by rw [b.out];omega
    rw [dO,eH] at o;clear hb;go_wp2_with (first
     |(go_at_call 144;refine (zbf s k hlt _).mono ?_;rw [n.out];rintro e w' ⟨rfl,rfl⟩)
     |(go_at_call 143;refine (zae a l h _ (oH n.out)).mono ?_;rw [c.out];rintro e w' ⟨rfl,rfl⟩)
     |(at_builtin;refine zQ w wr rfl _ _ _ rfl 5 _ 1 1 Tryz.underlying22 info_u8 rfl dM u5 _ _ _ _ rfl rfl hx g rfl (cells_u8 _) lM oM ?_;intro v' w5 hext5 zhP hg5 hat5))
    go_roundw
    case rel=>exact⟨k+1,d++[s[k]],oM,gM,by rw [dO];simpa [bcl,bnum] using zhP,b,by rw [dO];exact o,hext5⟩
    case measure=>simp [intOf];omega
  ·obtain rfl:k=s.size:=oM;have zhG:=za (show strOfNums (bnum d)=zbc s a by rw [m.out,dI sM];rfl);obtain⟨E,F,rfl⟩:=zi g;have t:=conv_own g;clear g;go_wp2_with (simp only [t])
   go_ret;exact⟨by rw [zhG.out];rfl,hx⟩
theorem restB_size (s:ByteArray) (a:Nat):(zbc s a).size<=s.size:=by
 have h:=keepL_len s a s.size;rw [dI sM] at h;have e:(zbc s a).size=(bnum (zgv a s.data.toList)).length:=by unfold zbc;rw [strOfNums_size]
 rw [e,bnum,List.length_map];exact h
def zcm (p:Aut) (q:Nat) (ls:List Nat):Nat:=ls.foldl (aGo p) q
theorem zeE (p:Aut) (q:Nat) (ls:List Nat) (l:Nat):zcm p q (ls++[l])=aGo p (zcm p q ls) l:=by simp [zcm]
theorem runA_ltF (hv:Fit N p) (h:∀ l∈ls,l<6) (hq:q<p.next.length):zcm p q ls<p.next.length:=by
 induction ls generalizing q with
 |nil=>exact hq
 |cons l r ih=>exact ih (fun x hx=>h x (fM _ hx)) (aGo_ltF hv hq (h l gD))
theorem zga (hv:zh p=true) (h:∀ l∈ls,l<6) (hq:q<p.next.length):zcm p q ls<p.next.length:=runA_ltF (fit_of hv) h hq
theorem restB_data (s:ByteArray) (a:Nat):(zbc s a).data.toList=zgv a s.data.toList:=by
 unfold zbc strOfNums bnum;simp only [List.map_map];refine (List.map_congr_left (g:=id) fun b _=>?_).trans (List.map_id _);simp
theorem zeC (h:zbF s=true) (a:Nat):inB (zbc s a) a=true:=by
 unfold inB overB;rw [restB_data,dF,decide_eq_true_eq];refine⟨dK (restB_size s a) (zaX h),?_⟩;rw [eC];intro b hb;exact (List.mem_filter.1 hb).2
section
variable {lo hi m d m' d':Nat} {B B':Option Addr} {p:Aut} {t:ByteArray} {w:World}
theorem spec_l3Run (h:zE w lo hi B m B' m' p)(hv:zh p=true)(ht:zbF t=true) :
  Calls Tryz.prog 264 #[.agg #[p.al,.slice B m d,.slice B' m' d'],(0:Int),t] w fun e w'=>e=.returned (.int .i64 (zcm p 0 (wl t):Nat))∧Ext w w':=by
 have HS:=za (fun W (hW:Ext w W)=>h.ext hW);have E:=zaX ht;have z:=za (fun k hk=>zbi ht (k:=k) hk);have D:=(zk hv).2.1;have C:=za hv;have f:=za (fun k=>zga hv (ls:=(wl t).take k) (fun l c=>wl_lt ht l (List.mem_of_mem_take c)) (q:=0) oM);clear h hv ht
 go_enter Tryz.func264,Tryz.ntmps264
 go_upto_region 1 with fail
 generalize U0:w.alloc _=w1 at *;obtain⟨hw1,b1⟩:=Ext.x1_ U0;clear U0;go_wp2_with fail
 go_loopw [1,7] (fun v i wr=>∃ k x:Nat,i=.int .i64 k∧k<=t.size∧v=.int .i64 x∧Hid (x=zcm p 0 ((wl t).take k))∧Ext w1 wr) (fun _ i _=>t.size - (intOf i).toNat)
 case atStart=>exact⟨0,0,rfl,dG _,rfl,rfl,cY _⟩
 case round =>
  obtain⟨k,x,rfl,hk,rfl,b,a⟩:=hrel
  by_cases hlt:k<t.size
  ·have g:=z.out k hlt;obtain⟨l,c⟩:∃ l:Nat,Hid ((t[k].toNat:Int) - 97=l):=⟨t[k].toNat - 97,by unfold Hid;omega⟩;have n:l<6:=oH c.out;have o:=za (show aGo p x l=zcm p 0 ((wl t).take (k+1)) by
    rw [dJ,zeL hlt,eG,zeE,← b.out]
    congr 1
    have:=c.out;omega)
   have s:x<p.next.length:=by rw [b.out];exact f.out k
   have u:=za (fun W (hW:Ext w1 W)=>zcN (d:=d) (d':=d') (HS.out W (hw1.trans hW)) C.out s n);generalize aGo p x l=y at *;have c1:∀ W,Ext wr W->∀ j,W.cell? ⟨w.heap.size,j,none⟩=#[Value.int .i64 p.al,.slice B m d,.slice B' m' d'][j]?:=fun W hW=>(b1.ext (a.trans hW)).cell;have hww:=cY wr;clear g;go_upto_region 4 with fail
   refine uR (fun X=>Ext wr X) [5] (zv.of [0,1,2,3,4,5,6]) ?_;refine uQ ?_;refine zd fun K hK=>?_;go_simp;refine (zbf t k hlt _).mono ?_;rw [c.out];rintro e w' ⟨rfl,rfl⟩;refine hK.out _ _ hww.drew ?_;refine pT ?_;refine zb fun K hK=>?_;go_simp;refine (u.out _ (a.trans hww.drew)).mono (mQ fun w5 hx5=>?_);refine hK.out _ _ ?_;refine pT ?_;refine uQ ?_;refine ze ?_;have r:=a.trans (hww.drew.trans hx5);go_wp2_with fail
   go_roundw
   case rel=>exact⟨k+1,y,gM,oM,rfl,o,r⟩
   case measure=>simp [intOf];omega
  ·obtain rfl:k=t.size:=oM;have zhG:=za (show x=zcm p 0 (wl t) by rw [b.out,dI (by rw [zgq];exact dD _)]);go_wp2;go_ret;exact⟨zG (by rw [zhG.out]),hw1.trans a⟩
end
theorem iface_neg (s t:Sys) (p:Aut):iface s p t<0↔(zj s&&(zh p&&zj t))=false:=by
 unfold iface;cases h:(zj s&&(zh p&&zj t))
 ·simp
 ·simp
theorem pnx_mod (ms:List Mem) (x l:Nat):pnx ms x l=pnx ms (x % zD ms) l:=by
 induction ms generalizing x with
 |nil=>rfl
 |cons m r ih =>
  rw [zcK];unfold pnx;have e1:x % (m.1*zD r) / zD r % m.1=x / zD r % m.1:=by
   rw [fO,Nat.mod_mul_right_div_self,Nat.mod_mod]
  have e2:pnx r (x % (m.1*zD r)) l=pnx r x l:=by
   rw [ih (x % (m.1*zD r)),Nat.mod_mul_left_mod,← ih x]
  rw [e1,e2]
theorem goes_lt {ms:List Mem}(hm:∀ m∈ms,zdK m) (hv:∀ l∈v,l<6) {x:Nat}(h:zbm (pnx ms) [0] v x):x<zD ms:=by
 rcases zad v with rfl|⟨u,l,rfl⟩
 ·have:=h.ah;have a:=zeB hm;simp at this;omega
 ·obtain⟨n,_,hx⟩:=h.inv;exact zgN hm (hv l sM) x hx
theorem mem_lt {m:Mem}(hm:zdK m) (hv:∀ l∈v,l<6) (h:zbm m.2 [0] v q):q<m.1:=by
 have a:∀ n (v:List Nat),v.length=n->(∀ l∈v,l<6)->∀ q,zbm m.2 [0] v q->q<m.1:=by
  intro n
  induction n with
  |zero =>
   intro v hl _ q h;obtain rfl:=dT hl;have:=h.ah;have:=hm.1;simp at *;omega
  |succ n ih =>
   intro v hl hv q h;rcases zad v with rfl|⟨u,l,rfl⟩
   ·simp at hl
   ·obtain⟨b,c,d⟩:=h.inv;exact hm.2 b l (ih u (by simpa using hl) (fun k hk=>hv k (by simp [hk])) b c) (hv l sM) q d
 exact a _ v rfl hv q h
theorem zev {m:Mem} {r:List Mem}(hm:zdK m)(hr:∀ m∈r,zdK m):∀ (n:Nat) (v:List Nat),v.length=n->(∀ l∈v,l<6)->∀ x,zbm (pnx (m :: r)) [0] v x↔∃ q y,x=q*zD r+y∧zbm m.2 [0] v q∧zbm (pnx r) [0] v y:=by
 intro n
 induction n with
 |zero =>
  intro v hl _ x;obtain rfl:=dT hl;constructor
  ·intro h;have:=h.ah;simp at this;subst this;exact⟨0,0,sM,.nil sM,.nil sM⟩
  ·rintro ⟨q,y,rfl,b,a⟩;have b:=b.ah;have a:=a.ah;simp at b a;subst b;subst a;exact .nil sM
 |succ n j =>
  intro v hl hv x;rcases zad v with rfl|⟨u,l,rfl⟩
  ·simp at hl
  have p:∀ k∈u,k<6:=fun k hk=>hv k (by simp [hk]);have B:l<6:=hv l sM;have j:=j u (by simpa using hl) p;have D:=zeB hr;have c:∀ q y,zbm m.2 [0] u q->zbm (pnx r) [0] u y->pnx (m :: r) (q*zD r+y) l=(m.2 q l).flatMap fun d=>(pnx r y l).map fun f=>d*zD r+f:=by
   intro q y b a;have C:=mem_lt hm p b;have hy:=goes_lt hr p a;show (m.2 ((q*zD r+y) / zD r % m.1) l).flatMap (fun d=>(pnx r (q*zD r+y) l).map fun f=>d*zD r+f)=_;have e1:(q*zD r+y) / zD r % m.1=q:=by
    rw [fO,Nat.mul_add_div oM,iQ hy,Nat.add_zero,hY C]
   have e2:pnx r (q*zD r+y) l=pnx r y l:=by
    rw [pnx_mod r (q*zD r+y),fO,Nat.mul_add_mod,← pnx_mod]
   rw [e1,e2]
  constructor
  ·intro h;obtain⟨n',b,a⟩:=h.inv;obtain⟨q,y,rfl,g,i⟩:=(j n').1 b;rw [c q y g i] at a;simp only [List.mem_flatMap,List.mem_map] at a;obtain⟨d,o,f,s,rfl⟩:=a;exact⟨d,f,rfl,.snoc g o,.snoc i s⟩
  ·rintro ⟨d,f,rfl,b,a⟩;obtain⟨q,g,i⟩:=b.inv;obtain⟨y,t,z⟩:=a.inv;refine .snoc ((j (q*zD r+y)).2 ⟨q,y,rfl,g,t⟩) ?_;rw [c q y g t];simp only [List.mem_flatMap,List.mem_map];exact⟨d,i,f,z,rfl⟩
def Runs (s:Sys) (v:List Nat):Prop:=∃ q,zbm (cho s) [0] v q
theorem zfA (a:Aut) (v:List Nat) (q:Nat):zbm (zbG a).2 [0] v q↔q=zcm a 0 v:=by
 have c:∀ n (v:List Nat),v.length=n->∀ q,zbm (zbG a).2 [0] v q↔q=zcm a 0 v:=by
  intro n
  induction n with
  |zero =>
   intro v hl q;obtain rfl:=dT hl;constructor
   ·intro h;have:=h.ah;simp at this;subst this;rfl
   ·rintro rfl;exact .nil (by simp [zcm])
  |succ n b =>
   intro v hl q;rcases zad v with rfl|⟨u,l,rfl⟩
   ·simp at hl
   rw [zeE];have b:=b u (by simpa using hl);constructor
   ·intro h;obtain⟨g,f,d⟩:=h.inv;rw [(b g).1 f] at d;simpa [zbG] using d
   ·rintro rfl;exact .snoc ((b _).2 rfl) (by simp [zbG])
 exact c _ v rfl q
theorem goes_nil (v:List Nat) (y:Nat):zbm (pnx []) [0] v y↔y=0:=by
 have b:∀ n (v:List Nat),v.length=n->∀ y,zbm (pnx []) [0] v y↔y=0:=by
  intro n
  induction n with
  |zero =>
   intro v hl y;obtain rfl:=dT hl;exact⟨fun h=>by simpa using h.ah,fun h=>.nil (by simp [h])⟩
  |succ n a =>
   intro v hl y;rcases zad v with rfl|⟨u,l,rfl⟩
   ·simp at hl
   have a:=a u (by simpa using hl);constructor
   ·intro h;obtain⟨f,d,c⟩:=h.inv;simpa [pnx] using c
   ·rintro rfl;exact .snoc ((a 0).2 rfl) (by simp [pnx])
 exact b _ v rfl y
theorem goes_two {a:Aut}(ha:zh a=true)(hp:zh p=true) (hv:∀ l∈v,l<6) (y:Nat):zbm (pnx [zbG a,zbG p]) [0] v y↔y=zcm a 0 v*p.next.length+zcm p 0 v:=by
 have d:∀ m∈[zbG p],zdK m:=by simp;exact zby hp
 have g:zD [zbG p]=p.next.length:=by simp [zD,zal,zbG]
 have b:∀ z,zbm (pnx [zbG p]) [0] v z↔z=zcm p 0 v:=by
  intro z;rw [zev (zby hp) sM _ v rfl hv];constructor
  ·rintro ⟨q,y,rfl,b,c⟩;rw [(goes_nil v y).1 c,(zfA p v q).1 b];simp [zD,zal]
  ·rintro rfl;exact⟨zcm p 0 v,0,by simp [zD,zal],(zfA p v _).2 rfl,(goes_nil v 0).2 rfl⟩
 rw [zev (zby ha) d _ v rfl hv,g];constructor
 ·rintro ⟨q,y,rfl,c,f⟩;rw [(zfA a v q).1 c,(b y).1 f]
 ·rintro rfl;exact⟨_,_,rfl,(zfA a v _).2 rfl,(b _).2 rfl⟩
theorem goes_parts {T:List Mem}(hT:∀ m∈T,zdK m) (hv:∀ l∈v,l<6) (g:Nat->Prop):∀ {ss:List Sys},(∀ s∈ss,zdK (zdk s))->((∃ x,zbm (pnx (ss.map zdk++T)) [0] v x∧g (x % zD T))↔(∀ s∈ss,Runs s v)∧∃ y,zbm (pnx T) [0] v y∧g y):=by
 intro ss
 induction ss with
 |nil =>
  intro _;simp only [List.map_nil,eA,List.not_mem_nil,false_implies,implies_true,true_and];constructor
  ·rintro ⟨x,h,c⟩;rw [hY (goes_lt hT hv h)] at c;exact⟨x,h,c⟩
  ·rintro ⟨x,h,c⟩;exact⟨x,h,by rwa [hY (goes_lt hT hv h)]⟩
 |cons s r j =>
  intro hs;have d:=hs s gD;have f:=fun t a=>hs t (fM _ a);have j:=j f;have hr:∀ m∈r.map zdk++T,zdK m:=by
   intro m hm;rcases List.mem_append.1 hm with h|h
   ·obtain⟨t,a,rfl⟩:=List.mem_map.1 h;exact f t a
   ·exact hT m h
  have b:∀ q y,(q*zD (r.map zdk++T)+y) % zD T=y % zD T:=by
   intro q y;rw [zbt,← Nat.mul_assoc,fO,Nat.mul_add_mod]
  rw [List.map_cons,List.cons_append];constructor
  ·rintro ⟨x,h,c⟩;obtain⟨q,y,rfl,i,k⟩:=(zev d hr _ v rfl hv x).1 h;rw [b] at c;obtain⟨n,o⟩:=j.1 ⟨y,k,c⟩;refine⟨fun t a=>?_,o⟩;rcases List.mem_cons.1 a with rfl|a
   ·exact⟨q,i⟩
   ·exact n t a
  ·rintro ⟨i,k⟩;obtain⟨y,n,o⟩:=j.2 ⟨fun t a=>i t (fM _ a),k⟩;obtain⟨q,p⟩:=i s gD;exact⟨q*zD (r.map zdk++T)+y,(zev d hr _ v rfl hv _).2 ⟨q,y,rfl,p,n⟩,by rwa [b]⟩
def Breaks (ss:List Sys) (a p:Aut) (v:List Nat):Prop:=(∀ s∈ss,Runs s v)∧zcU a (zcm a 0 v)=true∧zcU p (zcm p 0 v)=false
theorem zhC {ss:List Sys} {a:Aut}(hss:∀ s∈ss,zj s=true)(ha:zh a=true)(hp:zh p=true) :
  vioB ss a p=true↔∃ v,(∀ l∈v,l∈letters (zJ ss|||a.al.toNat) 6)∧Breaks ss a p v:=by
 have j:∀ s∈ss,zdK (zdk s):=fun s hs=>zei (zcu (hss s hs));have t:∀ m∈[zbG a,zbG p],zdK m:=by simp;exact⟨zby ha,zby hp⟩
 have r:zD [zbG a,zbG p]=a.next.length*p.next.length:=by simp [zD,zal,zbG]
 have u:=(zk ha).2.1;have z:=(zk hp).2.1;have c:∀ x,zbP a p x=zbP a p (x % zD [zbG a,zbG p]):=by
  intro x;unfold zbP;rw [r,Nat.mod_mul_left_mod,fO,Nat.mod_mul_right_div_self,Nat.mod_mod]
 have g:∀ v,(∀ l∈v,l<6)->((∃ x,zbm (zbH ss a p) [0] v x∧zbP a p x=true)↔Breaks ss a p v):=by
  intro v hv;rw [zcV];have k:=goes_parts t hv (fun y=>zbP a p y=true) j;have n:(∃ x,zbm (pnx (zaP ss [a,p])) [0] v x∧zbP a p x=true)↔(∃ x,zbm (pnx (ss.map zdk++[zbG a,zbG p])) [0] v x∧zbP a p (x % zD [zbG a,zbG p])=true):=by
   constructor
   ·rintro ⟨x,h,b⟩;exact⟨x,h,by rw [← c];exact b⟩
   ·rintro ⟨x,h,b⟩;exact⟨x,h,by rw [c];exact b⟩
  rw [n,k];unfold Breaks;refine and_congr_right fun _=>?_;have i:=zga ha hv (q:=0) oM;have f:=zga hp hv (q:=0) oM;have e1:(zcm a 0 v*p.next.length+zcm p 0 v) / p.next.length % a.next.length=zcm a 0 v:=by
   rw [fO,Nat.mul_add_div oM,iQ f,Nat.add_zero,hY i]
  have e2:(zcm a 0 v*p.next.length+zcm p 0 v) % p.next.length=zcm p 0 v:=by
   rw [fO,Nat.mul_add_mod,hY f]
  constructor
  ·rintro ⟨y,hy,b⟩;rw [(goes_two ha hp hv y).1 hy] at b;unfold zbP at b;rw [e1,e2] at b;simpa using b
  ·intro b;refine⟨_,(goes_two ha hp hv _).2 rfl,?_⟩;unfold zbP;rw [e1,e2];simpa using b
 unfold vioB lostB;rw [Bool.not_eq_true',@decide_eq_false_iff_not _ (Classical.propDecidable _)];constructor
 ·intro hn;apply Classical.byContradiction;intro hno;refine hn fun v hv x hx=>?_;cases hb:zbP a p x
  ·rfl
  ·exact absurd ⟨v,hv,(g v (fun l d=>zbJ _ l (hv l d))).1 ⟨x,hx,hb⟩⟩ hno
 ·rintro ⟨v,hv,o⟩ d;obtain⟨x,hx,b⟩:=(g v (fun l d=>zbJ _ l (hv l d))).2 o;have:=d v hv x hx;rw [b] at this;cases this
def hidL (s:Sys) (A l:Nat):Prop:=l<6∧s.al.toNat.testBit l=true∧A.testBit l=false
inductive Cl (s:Sys) (p:Aut) (A:Nat) (B:Nat->Nat->Prop):Nat->Nat->Prop
 |base {q i:Nat} (h:B q i):Cl s p A B q i
 |hid {q i l q':Nat} (h:Cl s p A B q i) (hl:hidL s A l) (hq:q'∈cho s q l):Cl s p A B q' (aGo p i l)
def mvB (s:Sys) (p:Aut) (l:Nat) (B:Nat->Nat->Prop):Nat->Nat->Prop:=fun q' j=>∃ q i,B q i∧q'∈cho s q l∧j=aGo p i l
def prR (s:Sys) (p:Aut) (A:Nat):List Nat->Nat->Nat->Prop
 |[]=>Cl s p A (fun q i=>q=0∧i=0)
 |l :: r=>Cl s p A (mvB s p l (prR s p A r))
def PR (s:Sys) (p:Aut) (A:Nat) (v:List Nat):Nat->Nat->Prop:=prR s p A v.reverse
theorem PR_snoc (s:Sys) (p:Aut) (A:Nat) (v:List Nat) (l:Nat):PR s p A (v++[l])=Cl s p A (mvB s p l (PR s p A v)):=by
 unfold PR;rw [List.reverse_append];rfl
def Bad (s:Sys) (p:Aut) (A:Nat) (v:List Nat):Prop:=∃ q i,PR s p A v q i∧zcU p i=false
def SafeW (s:Sys) (p:Aut) (A:Nat) (v:List Nat):Prop:=∀ k,k<=v.length->¬ Bad s p A (v.take k)
theorem zhw {s:Sys}(hs:Sml s) (hb:s.al.toNat.testBit l=true) (set q':Nat):(zdn s.edges set (l:Int)).testBit q'=true↔∃ q,set.testBit q=true∧q'∈cho s q l:=by
 obtain⟨m,n,h,-⟩:=hs;rw [stepB_bit];constructor
 ·rintro ⟨e,b,⟨c,a⟩,rfl⟩;obtain⟨i,j,k⟩:=h e b;refine⟨e.fr.toNat,a,?_⟩;unfold cho;rw [if_pos hb,zF];refine⟨oM,(zdJ _ _ _ _).2 ⟨e,b,?_,rfl⟩⟩;exact⟨oM,c⟩
 ·rintro ⟨q,c,a⟩;unfold cho at a;rw [if_pos hb,zF] at a;obtain⟨e,b,⟨d,f⟩,g⟩:=(zdJ _ _ _ _).1 a.2;exact⟨e,b,⟨f,by rw [d];simpa using c⟩,g⟩
theorem zgQ {s:Sys}(hs:Sml s) (x:Nat) (l:Int):zdn s.edges x l<65536:=by
 have a:=stepB_lt hs.2.2.1 x l;have b:(2:Nat) ^ s.st.toNat<=2 ^ 16:=dZ oM (oH hs.2.1);exact eI a b
def bitS (T:List Nat) (i q:Nat):Prop:=(T.getD i 0).testBit q=true
theorem bitS_lt (h:bitS T i q):i<T.length:=by
 rcases Nat.lt_or_ge i T.length with a|a
 ·exact a
 ·unfold bitS at h;rw [dH,eD a] at h;simp at h
theorem zgV (hj:j<T.length) (x i q:Nat):bitS (T.set j (T.getD j 0|||x)) i q↔bitS T i q∨(i=j∧x.testBit q=true):=by
 unfold bitS
 by_cases h:j=i
 ·subst h;rw [dH,eX hj,fX,gU,gA];simp
 ·rw [dH,fL h,← dH];constructor
  ·exact .inl
  ·rintro (a|⟨a,-⟩)
   ·exact a
   ·exact absurd a.symm h
def zdV (T:List Nat) (n:Nat) (B:Nat->Nat->Prop):Prop:=T.length=n∧(∀ x∈T,x<65536)∧∀ i q,bitS T i q↔B q i
structure ClI (s:Sys) (p:Aut) (A:Nat) (B:Nat->Nat->Prop) (n:Nat) (T:List Nat):Prop where
 len:T.length=n
 lt:∀ x∈T,x<65536
 base:∀ q i,B q i->bitS T i q
 sub:∀ i q,bitS T i q->Cl s p A B q i
def zdC (s:Sys) (p:Aut) (T:List Nat) (i l:Nat):Prop:=∀ q,bitS T i q->∀ q'∈cho s q l,bitS T (aGo p i l) q'
section
variable {s:Sys} {p:Aut} {A n:Nat} {B:Nat->Nat->Prop} {T:List Nat}
theorem zdV.clI (h:zdV T n B):ClI s p A B n T:=⟨h.1,h.2.1,fun q i hb=>(h.2.2 i q).2 hb,fun i q hb=>.base ((h.2.2 i q).1 hb)⟩
theorem zeb (h:∀ x∈T,x<65536) (i:Nat):T.getD i 0<65536:=by
 rw [dH];cases h1:T[i]? with
 |none=>simp
 |some x=>exact h x (dB h1)
theorem ClI.step (h:ClI s p A B n T)(hs:Sml s)(hp:zh p=true)(hn:n=p.next.length) (hi:i<n)(hl:hidL s A l) :
  ClI s p A B n (T.set (aGo p i l) (T.getD (aGo p i l) 0|||zdn s.edges (T.getD i 0) (l:Int))):=by
 have b:aGo p i l<T.length:=by rw [h.len,hn];exact zfa hp oM hl.1
 refine⟨by rw [List.length_set];exact h.len,fun x hx=>?_,fun q i' hb=>(zgV b _ _ _).2 (.inl (h.base q i' hb)),fun i' q hb=>?_⟩
 ·rcases eW hx with hx|rfl
  ·exact h.lt x hx
  ·exact eB (n:=16) (zeb h.lt _) (eI (stepB_lt hs.2.2.1 _ _) (dZ oM (oH hs.2.1)))
 ·rcases (zgV b _ _ _).1 hb with a|⟨rfl,a⟩
  ·exact h.sub _ _ a
  ·obtain⟨f,c,d⟩:=(zhw hs hl.2.1 _ _).1 a;exact .hid (h.sub _ _ c) hl d
theorem closedAt_of (hs:Sml s) (hl:hidL s A l)(he:T.getD (aGo p i l) 0|||zdn s.edges (T.getD i 0) (l:Int)=T.getD (aGo p i l) 0):zdC s p T i l:=by
 intro q hq q' hq';unfold bitS;rw [← he,gU,(zhw hs hl.2.1 _ _).2 ⟨q,hq,hq'⟩,Bool.or_true]
theorem ClI.fin (h:ClI s p A B n T)(hc:∀ i l,i<n->hidL s A l->zdC s p T i l):zdV T n (Cl s p A B):=by
 refine⟨h.len,h.lt,fun i q=>⟨h.sub i q,fun hb=>?_⟩⟩
 induction hb with
 |base hb=>exact h.base _ _ hb
 |hid _ hl hq ih=>exact hc _ _ (by rw [← h.len];exact bitS_lt ih) hl _ ih _ hq
end
def room:List Nat->Nat
 |[]=>0
 |x :: r=>(65536 - x)+room r
theorem room_set:∀ (T:List Nat) (j x:Nat),(T.getD j 0|||x)<65536->room (T.set j (T.getD j 0|||x))<=room T∧(j<T.length->T.getD j 0|||x≠T.getD j 0->room (T.set j (T.getD j 0|||x))<room T)
 |[],j,x,_=>by simp [room]
 |a :: r,0,x,h=>by
  simp only [List.getD_cons_zero,List.set_cons_zero,room] at h ⊢
  have h1:a<=a|||x:=Nat.left_le_or
  refine⟨oM,fun _ h2=>oM⟩
 |a :: r,j+1,x,h=>by
  simp only [List.getD_cons_succ,List.set_cons_succ,room,List.length_cons] at h ⊢
  obtain⟨h1,h2⟩:=room_set r j x h
  refine⟨oM,fun h3 h4=>by have:=h2 oM h4;omega⟩
theorem sub_bit (ha:a<64)(hb:b<64) (l:Nat):l∈letters (a - (a&&&b)) 6↔l<6∧a.testBit l=true∧b.testBit l=false:=by
 rw [zF];refine and_congr_right fun hl=>?_;have c:∀ a<64,∀ b<64,∀ l<6,((a - (a&&&b)).testBit l=true↔a.testBit l=true∧b.testBit l=false):=by decide +kernel
 exact c a ha b hb l hl
theorem stand_bad {s:Sys}  {A:Nat}  (h:zdV T n (PR s p A v)):Bad s p A v↔∃ i,i<n∧T.getD i 0≠0∧zcU p i=false:=by
 constructor
 ·rintro ⟨q,i,a,b⟩;have hb:=(h.2.2 i q).2 a;refine⟨i,by rw [← h.1];exact bitS_lt hb,fun e=>?_,b⟩;unfold bitS at hb;rw [e] at hb;simp at hb
 ·rintro ⟨i,d,a,b⟩;obtain⟨q,c⟩:=Nat.exists_testBit_of_ne_zero a;exact⟨q,i,(h.2.2 i q).1 c,b⟩
theorem stand_start (hn:1<=n):zdV ((dS n 0).set 0 1) n (fun q i=>q=0∧i=0):=by
 refine⟨sM,fun x hx=>?_,fun i q=>?_⟩
 ·rcases eW hx with hx|rfl
  ·rw [iW] at hx;omega
  ·omega
 ·unfold bitS;rw [dH]
  by_cases h:i=0
  ·subst h;rw [eX (by rw [List.length_replicate];omega),fX];constructor
   ·intro h;exact⟨by cases q with|zero=>rfl|succ q=>simp [Nat.testBit_succ] at h,rfl⟩
   ·rintro ⟨rfl,-⟩;rfl
  ·rw [fL oM];constructor
   ·intro h;cases a:(dS n 0)[i]? with
    |none=>rw [a] at h;simp at h
    |some x =>
     have:=dB a;rw [iW] at this;rw [a,this.2] at h;simp at h
   ·rintro ⟨_,a⟩;exact absurd a h
theorem zhe (l:List Int):∀ u∈ints l,u.oneCell'=true:=by
 intro u hu;obtain⟨x,_,rfl⟩:=List.mem_map.1 hu;rfl
theorem zfM (l:List Bool):∀ u∈zaB l,u.oneCell'=true:=by
 intro u hu;obtain⟨x,_,rfl⟩:=List.mem_map.1 hu;rfl
theorem zab (W:World) (Z:Nat) (u0 u1 u2:Value):Frm (fun k=>k=Z) W (((W.setCell Z u0).setCell ⟨Z,1,none⟩ u1).setCell ⟨Z,2,none⟩ u2):=
 ((dE W Z 0 u0).trans (dE _ Z 1 u1)).trans (dE _ Z 2 u2)
theorem zaj {Z:Nat}  (h:Blk w Z t cs)(hc:cs.size=3) (u0 u1 u2:Value):Blk (((w.setCell Z u0).setCell ⟨Z,1,none⟩ u1).setCell ⟨Z,2,none⟩ u2) Z t #[u0,u1,u2]:=by
 obtain⟨l⟩:=cs
 match l,hc with
 |[a,b,c],_=>simpa using ((h.ab 0 u0).ab 1 u1).ab 2 u2
theorem zp {e:TypeId} {size:Nat} {v:Value} {xs:List Value} (h:w.ownsRow base e size v n xs)(hB:Blk w G t cs)(hne:e≠t) (hv:v.ownBlock=some b):b≠G:=by
 rintro rfl;rcases h.2 with ⟨rfl,_⟩|⟨g,a,c,rfl,_,hh,_⟩
 ·simp [Value.ownBlock] at hv
 ·have d:g=b:=by simpa [Value.ownBlock] using hv
  subst d;unfold Blk at hB;rw [hh] at hB;injection hB with hB
  injection hB with _ ht
  exact absurd ht hne
structure Gra (w0 W:World) (G:Nat) (al:Int) (v:Value) (ls:List (List Int)) (vA:Value) (acc:List Bool):Prop where
 blk:Blk W G 27 #[al,v,vA]
 own:zen W w0.heap.size v ls
 acc:W.ownsRow w0.heap.size 4 1 vA acc.length (zaB acc)
 ext:Ext w0 W
 hG:w0.heap.size<=G
section
variable {w0 W W':World} {G:Nat} {al:Int} {v vA:Value} {ls:List (List Int)} {acc:List Bool}
theorem Gra.aw (h:Gra w0 W G al v ls vA acc)(hb:Ext W W'):Gra w0 W' G al v ls vA acc:=⟨h.blk.ext hb,h.own.ext hb,zg h.acc hb,h.ext.trans hb,h.hG⟩
theorem Gra.push {W1:World} {rows:List Value} {row:Value} {l:List Int} (h:Gra w0 W G al v ls vA acc)(hrows:zH W w0.heap.size rows ls)(hv:W.ownsRow w0.heap.size 110 1 v ls.length rows)
  (hx:Ext W W1) (hrow:W1.ownsRow W.heap.size 3 1 row l.length (ints l))
  (zhD:W'.ownsRow w0.heap.size 110 1 (.slice (some g) (ls.length+1) cap) (ls.length+1) (rows++[row]))
  (hg:W1.grownBy W' v.ownBlock) (hat:v.ownBlock=some g∨g=W1.heap.size+1) :
  Hid (W'.cell? ⟨G,1,none⟩=some v)∧W'.frozen? ⟨G,1,none⟩=false∧Gra w0 (W'.setCell ⟨G,1,none⟩ (.slice (some g) (ls.length+1) cap)) G al (.slice (some g) (ls.length+1) cap) (ls++[l]) vA acc:=by
 have a:=h.blk.ext hx;have d:=zg hv hx;have f:Blk W' G 27 #[.int .i64 al,v,vA]:=(hg.block G a.lt (fun e=>zp d a dM e.symm rfl)).trans a;have u:g≠G:=by
  rcases hat with t|t
  ·exact zp d a dM t
  ·have:=a.lt;omega
 have s:Ext w0 W':=(h.ext.trans hx).grown hg (fun k hk=>(d.lt k hk).1);have m:=hrows.snoc hx (h.ext.size) hrow;have j:Frm (fun k=>v.ownBlock=some k) W1 W':=Frm.ae hg;have n:zH W' w0.heap.size (rows++[row]) (ls++[l]):=m.frm j (fun i r b hr hb hS=>by
  obtain⟨x,_,q⟩:=m.row hr;exact zaW q d dM hb hS)
 have o:W'.ownsRow w0.heap.size 4 1 vA acc.length (zaB acc):=zf (zg h.acc hx) j (fun b hb hS=>zaW (zg h.acc hx) d dM hb hS);have c:=dE W' G 1 (.slice (some g) (ls.length+1) cap);refine⟨f.cell 1,f.frozen 1,⟨by simpa using f.ab 1 _,⟨rows++[row],?_,?_⟩,?_,s.setCell (p:=⟨G,1,none⟩) h.hG _,h.hG⟩⟩
 ·rw [dO,eH];exact zf zhD c (fun b hv hS=>by
   have:g=b:=by simpa [Value.ownBlock] using hv
   omega)
 ·refine n.frm c (fun i r b hr hb hS=>?_);obtain⟨x,_,q⟩:=n.row hr;exact zp q f dM hb hS
 ·exact zf o c (fun b hb hS=>zp o f dM hb hS)
end
def memT (W:World) (g n:Nat):List Nat:=(List.range n).map fun j=>match W.cell? ⟨g,j,none⟩ with|some (.int _ z)=>z.toNat|_=>0
theorem memT_own (h:W.ownsRow base 3 1 (.slice (some g) n c) n (zah T))(hT:T.length=n):memT W g n=T:=by
 refine List.ext_getElem? fun j=>?_;unfold memT;rw [dQ];rcases Nat.lt_or_ge j n with a|a
 ·rw [List.getElem?_range a,Option.map_some,h.cellAt j oM,show (zah T)[j]?=T[j]?.map (fun x=>Value.int .i64 (x:Nat)) by simp [zah]];rw [dC oM];simp
 ·rw [eD (by simpa using a),eD oM];rfl
theorem zda (h:W.ownsRow base 3 1 (.slice (some g) n c) n (zah T))(hj:j<n):W.cell? ⟨g,j,none⟩=some (.int .i64 (T.getD j 0:Nat)):=by
 have a:=zeS h;have b:T.length=n:=by simpa [zah] using a
 rw [h.cellAt j oM,show (zah T)[j]?=T[j]?.map (fun x=>Value.int .i64 (x:Nat)) by simp [zah],dH,dC oM];simp
def RetSets (g N cc base:Nat) (Q:Nat->Nat->Prop) (w:World) (e:Ending) (w':World):Prop:=
 ∃ T':List Nat,e=.returned (.slice (some g) N cc)∧w'.ownsRow base 3 1 (.slice (some g) N cc) N (zah T')∧zdV T' N Q∧Frm (fun k=>k=g) w w'
section
variable {w:World} {lo hi n c m d m' d' L:Nat} {A B B':Option Addr} {s:Sys} {p:Aut}
theorem zfi {cc:Nat}  {Bs:Nat->Nat->Prop}(hS:zR w lo hi A n s)(hP:zE w lo hi B m B' m' p)(hv:zj s=true)(hp:zh p=true)(hL:L<64)(hN:N=p.next.length)
  (hg:hi<=base) (zhD:w.ownsRow base 3 1 (.slice (some g) N cc) N (zah T)) (hT:zdV T N Bs) :
  Calls Tryz.prog 223 #[.agg #[s.al,s.st,.slice A n c,p.al,.slice B m d,.slice B' m' d',L],.slice (some g) N cc] w (RetSets g N cc base (Cl s p L Bs) w):=by
 have O:=zcu hv;obtain⟨aT,aU⟩:=zI hv;obtain⟨al,ab⟩:∃ al:Nat,Hid (s.al=al):=⟨s.al.toNat,by unfold Hid;omega⟩;have I:al<64:=oH ab.out;have aH:N<=12:=by have:=(zk hp).2.1;omega
 have aX:=(zhD.lt g rfl).1;have aZ:=(zhD.lt g rfl).2;have HN:=za hN;have aA:=za (zbz (a:=al) (b:=L) tM tM);have a1:al&&&L<=al:=iE;have Z:(al:Int) - ((al&&&L:Nat):Int)=((al - (al&&&L):Nat):Int):=oM;have aj:=za Z;clear Z;have H:=za (fun l=>sub_bit I hL l);have aV:=aA.out;clear hN
 go_enter Tryz.func223,Tryz.ntmps223
 go_upto_region 1 with fail
 generalize U0:w.alloc _=w1 at *;obtain⟨hw1,b1⟩:=Ext.x1_ U0;have k1:=b1.cell;clear U0;rw [ab.out] at k1;go_wp2_with fail
 rw [aj.out];refine (zT (al - (al&&&L)) tM _).mono ?_;rintro e w2 ⟨HA,hc,rfl,E,hx2⟩;have H:=za (fun l=>(sub_bit I hL l).trans (show l<6∧al.testBit l=true∧L.testBit l=false↔hidL s L l by unfold hidL;rw [ab.out];rfl));generalize letters (al - (al&&&L)) 6=hs at *;have a0:hs.length<=9223372036854775807:=(Reads.af E).len;have ak:Frm (fun k=>k=g) w w2:=(hw1.trans hx2).aj;have au:=zg zhD (hw1.trans hx2);have aD:=b1.ext hx2;have o:=hT.clI (s:=s) (p:=p) (A:=L);clear zhD hT k1 b1;go_wp2_with fail
 go_loopw [6] (fun mv wr=>∃ (C:Bool) (T:List Nat),mv=.bool C∧Hid (ClI s p L Bs N T)∧Hid (C=false->∀ i l,i<N->hidL s L l->zdC s p T i l)∧wr.ownsRow base 3 1 (.slice (some g) N cc) N (zah T)∧Frm (fun k=>k=g) w2 wr) (fun mv wr=>room (memT wr g N)+(match mv with | .bool true=>1|_=>0))
 case atStart=>exact⟨true,T,rfl,za o,za (fun h=>by cases h),au,Frm.refl _ _⟩
 case round =>
  clear o au;obtain⟨C,T,rfl,o,f,zhD,t⟩:=hrel;have an:=za (memT_own zhD o.out.len);cases C
  ·have zhG:=za (o.out.fin (f.out rfl));go_wp2_with fail
   go_ret;exact⟨T,rfl,zhD,zhG.out,ak.trans t⟩
  ·go_wp2_with fail
   go_loopw [6,7] (fun mv iv wq=>∃ (C:Bool) (i:Nat) (v:List Nat),mv=.bool C∧iv=.int .i64 i∧i<=N∧Hid (ClI s p L Bs N v)∧Hid (room v<=room T∧(C=true->room v<room T))∧Hid (C=false->∀ i' l,i'<i->hidL s L l->zdC s p v i' l)∧wq.ownsRow base 3 1 (.slice (some g) N cc) N (zah v)∧Frm (fun k=>k=g) w2 wq) (fun _ iv _=>N - (intOf iv).toNat)
   case atStart=>exact⟨false,0,T,rfl,rfl,dG _,o,za ⟨dD _,fun h=>by cases h⟩,za (fun _ i' l h=>oM),zhD,t⟩
   case round =>
    clear o zhD t f;obtain⟨C,i,v,rfl,rfl,hi,o,r,f,zhD,t⟩:=hrel
    by_cases hlt:i<N
    ·have aK:(i:Int)<(N:Int):=oM;go_wp2_with fail
     go_loopw [6,8] (fun mv kv wq=>∃ (C:Bool) (k:Nat) (v:List Nat),mv=.bool C∧kv=.int .i64 k∧k<=hs.length∧Hid (ClI s p L Bs N v)∧Hid (room v<=room T∧(C=true->room v<room T))∧Hid (C=false->(∀ i' l,i'<i->hidL s L l->zdC s p v i' l)∧∀ (k' l:Nat),k'<k->hs[k']?=some l->zdC s p v i l)∧wq.ownsRow base 3 1 (.slice (some g) N cc) N (zah v)∧Frm (fun k=>k=g) w2 wq) (fun _ kv _=>hs.length - (intOf kv).toNat)
     case atStart=>exact⟨C,0,v,rfl,rfl,dG _,o,r,za (fun h=>⟨f.out h,fun k' l h=>oM⟩),zhD,t⟩
     case round =>
      clear o r f zhD t;obtain⟨C,k,v,rfl,rfl,hk,o,r,f,zhD,t⟩:=hrel
      by_cases hkl:k<hs.length
      ·have aJ:(k:Int)<(hs.length:Int):=oM;obtain⟨l,U⟩:∃ l,hs[k]?=some l:=⟨_,dC hkl⟩;have M:=(H.out l).1 (dB U);have am:=M.1;have ad:aGo p i l<N:=by rw [HN.out];exact zfa hp (by rw [← HN.out];exact hlt) am
       obtain⟨gh,rfl,aY,-⟩:=zak E oM;have G:=zaA E t (fun b V e=>oH hw1.size);have cH:=zda G hkl;rw [dH,U,fX] at cH;have CH:∀ W,Ext wr W->W.cell? ⟨gh,k,none⟩=some (.int .i64 (l:Nat)):=fun W hW=>hW.aa cH;have CB:∀ W,Ext wr W->∀ q,W.cell? ⟨w.heap.size,q,none⟩=#[Value.int .i64 s.al,.int .i64 s.st,.slice A n c,.int .i64 p.al,.slice B m d,.slice B' m' d',.int .i64 L][q]?:=fun W hW=>((aD.frm t oM).ext hW).cell;have CI:∀ W,Ext wr W->W.cell? ⟨g,i,none⟩=some (.int .i64 (v.getD i 0:Nat)):=fun W hW=>hW.aa (zda zhD hlt);have ay:=za (fun W (hW:Ext wr W)=>((hP.ext (hw1.trans hx2)).frm t (fun k V h2 e=>oM)).ext hW);have az:=za (fun W (hW:Ext wr W)=>((hS.ext (hw1.trans hx2)).frm t (fun k V h2 e=>oM)).ext hW);have Hl:=za U;have hww:=cY wr;clear U cH G;go_wp2_with fail
       go_region_held3 (fun W=>Ext wr W) (first|assumption|(refine eZ ?_;assumption)|(refine eE ?_ aM;assumption)|(refine eE ?_ aM;refine eZ ?_;assumption)) (first|(go_at_call 225;refine (zcN (ay.out _ ?_) hp (by rw [← HN.out];exact hlt) am).mono ?_;(first|assumption|(refine eZ ?_;assumption));rintro e w3 ⟨rfl,hx3⟩))
       have aL:Ext wr w3:=aM;obtain⟨j,hj⟩:∃ j,Hid (aGo p i l=j):=⟨_,rfl⟩;rw [hj.out] at ad ⊢;have CJ:∀ W,Ext wr W->W.cell? ⟨g,j,none⟩=some (.int .i64 (v.getD j 0:Nat)):=fun W hW=>hW.aa (zda zhD ad);obtain⟨x,hx⟩:∃ x,Hid (v.getD i 0=x):=⟨_,rfl⟩;obtain⟨y,hy⟩:∃ y,Hid (v.getD j 0=y):=⟨_,rfl⟩;have aN:x<65536:=by rw [← hx.out];exact zeb o.out.lt i
       have ar:y<65536:=by rw [← hy.out];exact zeb o.out.lt j
       rw [hx.out] at CI;rw [hy.out] at CJ;have Q:zdn s.edges x (l:Int)<65536:=zgQ O _ _;obtain⟨z,hz⟩:∃ z,Hid (zdn s.edges x (l:Int)=z):=⟨_,rfl⟩;rw [hz.out] at Q;have aF:=zaR (a:=y) (b:=z) tM tM;have aI:(j:Int)<(N:Int):=oM;obtain⟨u,hu⟩:∃ u,Hid (y|||z=u):=⟨_,rfl⟩;have aq:u<65536:=by rw [← hu.out];exact eB (n:=16) ar Q
       rw [hu.out] at aF;go_wp2_with fail
       go_region_held3 (fun W=>Ext wr W) (first|assumption|(refine eZ ?_;assumption)|(refine eE ?_ aM;assumption)|(refine eE ?_ aM;refine eZ ?_;assumption)) (first|(go_at_call 224;refine (zgi (c:=c) (k0:=s.st.toNat) (az.out _ ?_) O.2.2.1 (oH O.2.1) tM).mono ?_;(first|assumption|(refine eZ ?_;assumption));rw [hz.out];rintro e w4 ⟨rfl,hx4⟩))
       have R:Ext wr w4:=aM;have cJ:=CJ w4 R;have X:=t.ext R;have D:=zg zhD R;have J:v.getD (aGo p i l) 0|||zdn s.edges (v.getD i 0) (l:Int)=u:=by rw [hj.out,hx.out,hy.out,hz.out,hu.out]
       have ah:=za J;have F:=o.out.step O hp HN.out hlt M;rw [J,hj.out] at F;have aa:=za F;clear J F CH CB CI CJ
       by_cases he:u=y
       ·have aB:=za (closedAt_of (T:=v) (p:=p) (i:=i) O M (by rw [ah.out,hj.out,hy.out,he]));have aE:((u:Int) != (y:Int))=false:=by rw [he];simp
        clear he;go_wp2_with fail
        go_roundw
        case rel=>exact⟨C,k+1,v,rfl,gM,oM,o,r,za (fun h=>⟨(f.out h).1,fun k' l' S hl'=>by
         rcases eV (gH S) with V|rfl
         ·exact (f.out h).2 k' l' V hl'
         ·rw [Hl.out] at hl';obtain rfl:=Option.some.inj hl';exact aB.out⟩),D,X⟩
        case measure=>simp [intOf];omega
       ·have aE:((u:Int) != (y:Int))=true:=by simp;omega
        have af:=room_set v j z (by rw [hy.out,hu.out];exact aq);rw [hy.out,hu.out] at af;have Y:=af.2 (by rw [o.out.len];exact ad) he;have ai:=za Y;have ao:=(D.stored j (.int .i64 (u:Nat))).1;rw [← zfC] at ao;have aW:=D.frozenAt j;clear af Y he;go_wp2_with fail
        go_roundw
        case rel=>exact⟨true,k+1,v.set j u,rfl,gM,oM,za aa.out,za ⟨by have:=ai.out;have:=r.out.1;omega,fun _=>by have:=ai.out;have:=r.out.1;omega⟩,za (fun h=>by cases h),ao,X.trans (dE _ g j _)⟩
        case measure=>simp [intOf];omega
      ·go_wp2_with fail
       go_roundw
       case rel=>exact⟨C,i+1,v,rfl,gM,oM,o,r,za (fun h i' l hi' U=>by
        rcases eV (gH hi') with V|rfl
        ·exact (f.out h).1 i' l V U
        ·obtain⟨k',S⟩:=dX ((H.out l).2 U);exact (f.out h).2 k' l (by have:=(List.getElem?_eq_some_iff.1 S).1;omega) S),zhD,t⟩
       case measure=>simp [intOf];omega
    ·go_wp2_with fail
     have ae:=za (memT_own zhD o.out.len);go_roundw
     case rel=>exact⟨C,v,rfl,o,za (fun h i l hi U=>f.out h i l oM U),zhD,t⟩
     case measure =>
      rw [an.out,ae.out];have V:=r.out;cases C
      ·simp;omega
      ·have:=V.2 rfl
       simp;omega
end
theorem Frm.grownG {T:Nat->Prop}  {row:Option Nat}(h:Frm T w W)(hg:W.grownBy W' row)(hr:∀ k,row=some k->w.heap.size<=k):Frm T w W':=
 ⟨hg.os.trans h.os,hg.tape.trans h.tape,hg.output.trans h.output,dK h.size hg.size,fun k hk hn=>(hg.block k (eI hk h.size) (fun e=>by have:=hr k e.symm;omega)).trans (h.block k hk hn)⟩
structure Gr2 (w0 W:World) (G:Nat) (al st:Int) (v:Value) (es:List Edg):Prop where
 blk:Blk W G 38 #[al,st,v]
 own:W.ownsRow w0.heap.size 117 3 v es.length (zq es)
 fr:Frm (fun k=>k=G) w0 W
 hG:G<w0.heap.size
theorem Gr2.aw {v:Value} (h:Gr2 w0 W G al st v es)(hb:Ext W W'):Gr2 w0 W' G al st v es:=⟨h.blk.ext hb,zg h.own hb,h.fr.ext hb,h.hG⟩
theorem Gr2.push {v:Value}   {e:Edg}(h:Gr2 w0 W G al st v es) (zhD:W'.ownsRow w0.heap.size 117 3 (.slice (some g) (es.length+1) cap) (es.length+1) (zq es++[.int .i64 e.fr,.int .i64 e.le,.int .i64 e.ta]))
  (hg:W.grownBy W' v.ownBlock) :
  Hid (W'.cell? ⟨G,2,none⟩=some v)∧W'.frozen? ⟨G,2,none⟩=false∧Gr2 w0 (W'.setCell ⟨G,2,none⟩ (.slice (some g) (es.length+1) cap)) G al st (.slice (some g) (es.length+1) cap) (es++[e]):=by
 have a:Blk W' G 38 #[.int .i64 al,.int .i64 st,v]:=(hg.block G h.blk.lt (fun e=>by have:=(h.own.lt G e.symm).1;have:=h.hG;omega)).trans h.blk;have d:=(zhD.lt g rfl).1;have hG:=h.hG;have c:Frm (fun k=>k=G) w0 W':=h.fr.grownG hg (fun k hk=>(h.own.lt k hk).1);refine⟨a.cell 2,a.frozen 2,⟨by simpa using a.ab 2 _,?_,c.cell rfl _,hG⟩⟩;have:=zf zhD (dE W' G 2 (.slice (some g) (es.length+1) cap)) (fun b hv hS=>by
  have:g=b:=by simpa [Value.ownBlock] using hv
  omega)
 rw [zbS];simpa [zq] using this
theorem yF07a4 {P:Prop}(h:P:=by
 intro vA w4 hownA hgA hatA;rw [Nat.zero_add,List.nil_append] at hownA;obtain⟨BA,dA,rfl⟩:=zi hownA;have hxA:Ext w2 w4:=hx0.grown hgA (fun k hk=>(hm.lt k hk).1);have hb:Blk w4 G 27 #[.int .i64 0,.slice none 0 0,.slice none 0 0]:=(hgA.block G hb.lt (fun e=>zp hm hb dM e.symm rfl)).trans hb;replace hx0:=hxA;refine hK.out _ _ hx0 ?_;refine pT ?_;refine uQ ?_;have cG:=hb.cell;have fG:=hb.frozen;refine zb fun K hK=>?_;go_simp;refine hK.out _ _ ?_;refine ze ?_;have zhG:Gra w2 (((w4.setCell G a.al).setCell ⟨G,1,none⟩ ()).setCell ⟨G,2,none⟩ (.slice BA n' dA)) G a.al (.slice none 0 0) [] (.slice BA n' dA) a.acc:=⟨zaj hb rfl _ _ _,⟨[],World.ownsRow_nil _ _ _ _,zH.nil _ _⟩,by
  rw [← hL'.out];exact zf hownA (zab w4 G _ _ _) (fun b hv hS=>zp hownA hb dM hv hS),hx0.frm (zab w4 G _ _ _) (fun k hk e=>oM),hG⟩
 go_wp2_with fail
 go_meet;exact⟨G,_,rfl,zhG⟩
 ):P:=h
theorem zdi {lo hi:Nat}   {A':Option Addr} {n' c':Nat} {a:Aut} (h:zE w lo hi A n A' n' a)(hs:a.size<=1048576) :
  Calls Tryz.prog 165 #[.agg #[a.al,.slice A n c,.slice A' n' c']] w (RetAut w a):=by
 have Q:n<=1048576:=by have:=h.n1;unfold Aut.size at hs;omega
 have h2:n'<=1048576:=by have:=h.n2;unfold Aut.size at hs;omega
 have g:∀ (k:Nat) (l:List Int),a.next[k]?=some l->l.length<=1048576:=fun k l I=>by
  have Q:=zhA I;have h2:=tot_take_le a.next (k+1);unfold Aut.size at hs;omega
 have C:=za g;have D:=za h.n1;have hL':=za h.n2;have HS:=za (fun W (hW:Ext w W)=>h.1.ext hW);have HA:=za (fun W (hW:Ext w W)=>h.2.2.ext hW);have Y:=h.1.len;clear g h hs
 go_enter Tryz.func165,Tryz.ntmps165
 go_upto_region 1 with fail
 generalize U0:(w.alloc _).alloc _=w2 at *;obtain⟨hw2,b1,bz⟩:=Ext.x2_ U0;have aa:w.heap.size+2=w2.heap.size:=by rw [← U0];simp
 clear U0
 go_cut [3] (fun v wx=>∃ (G:Nat) (vA:Value),v=.pointer (some G)∧Gra w2 wx G a.al (.slice none 0 0) [] vA a.acc)
 case first =>
  have c1:=fun W (hW:Ext w2 W)=>(b1.ext hW).cell;have hww:=cY w2;refine uR (fun X=>Ext w2 X) [8] (zv.app [0,1,3,4] (zv.two 2 (zv.two 5 (zv.of [6,7,8]) 7 (zv.of [5,6,8])) 7 (zv.of [2,5,6,8]))) ?_;refine uQ ?_;have hx0:Ext w2 w2.drew:=hww.drew;generalize w2.drew=m at *;refine zm (fun K hK=>?_) (fun K hK=>?_)
  ·go_simp;have hm:=World.ownsRow_made (base:=w2.heap.size) (e:=4) (size:=1) m #[] 0 hx0.size (dG _) rfl;have f:=(cY m).alloc (.cells #[] 4);replace hx0:=hx0.trans f;refine hK.out _ _ hx0 ?_;generalize m.alloc _=t at *;generalize m.heap.size=M at *;refine pT ?_;refine uQ ?_;clear hK;refine zm (fun K hK=>?_) (fun K hK=>?_)
   ·skip;refine zu t _ _ 25 rfl w2.heap.size 4 _ 1 1 Tryz.underlying25 zbe rfl dM (.slice (some M) 0 0) 0 [] rfl hm _ _ A' n' c' (zaB a.acc) rfl (HA.out _ (hw2.trans hx0)) (zfM _) lM oM hx0.size ?_;intro vA w4 hownA hgA hatA;rw [dP,eA] at hownA;obtain⟨BA,dA,rfl⟩:=zi hownA;have hxA:Ext w2 w4:=hx0.grown hgA (fun k hk=>(hm.lt k hk).1);replace hx0:=hxA;refine hK.out _ _ hx0 ?_;refine pT ?_;refine uQ ?_;refine zd fun K hK=>?_;go_simp;have f:=(cY w4).alloc (.cells #[(0:Int),(),()] 27);have hG:=hx0.size;replace hownA:=zg hownA f;replace hx0:=hx0.trans f;refine hK.out _ _ hx0 ?_;generalize U0:w4.alloc _=o at *;have hb:=Ext.bl_ U0;clear U0;generalize w4.heap.size=G at *;refine pT ?_;refine uQ ?_;have cG:=hb.cell;have fG:=hb.frozen;refine zb fun K hK=>?_;go_simp;refine hK.out _ _ ?_;refine ze ?_;have zhG:Gra w2 (((o.setCell G a.al).setCell ⟨G,1,none⟩ ()).setCell ⟨G,2,none⟩ (.slice BA n' dA)) G a.al (.slice none 0 0) [] (.slice BA n' dA) a.acc:=⟨zaj hb rfl _ _ _,⟨[],World.ownsRow_nil _ _ _ _,zH.nil _ _⟩,by
     rw [← hL'.out];exact zf hownA (zab o G _ _ _) (fun b hv hS=>zp hownA hb dM hv hS),hx0.frm (zab o G _ _ _) (fun k hk e=>oM),hG⟩
    go_wp2_with fail
    go_meet;exact⟨G,_,rfl,zhG⟩
   ·go_simp;have f:=(cY t).alloc (.cells #[(0:Int),(),()] 27);have hG:=hx0.size;replace hm:=zg hm f;replace hx0:=hx0.trans f;refine hK.out _ _ hx0 ?_;generalize U0:t.alloc _=o at *;have hb:=Ext.bl_ U0;clear U0;generalize t.heap.size=G at *;refine pT ?_;refine uQ ?_;refine zd (fun K hK=>?_);refine zu o _ _ 25 rfl w2.heap.size 4 _ 1 1 Tryz.underlying25 zbe rfl dM (.slice (some M) 0 0) 0 [] rfl hm _ _ A' n' c' (zaB a.acc) rfl (HA.out _ (hw2.trans hx0)) (zfM _) lM oM hx0.size ?_;exact yF07a4
  ·go_simp;have f:=(cY m).alloc (.cells #[(0:Int),(),()] 27);have hG:=hx0.size;replace hx0:=hx0.trans f;refine hK.out _ _ hx0 ?_;generalize U0:m.alloc _=o at *;have hb:=Ext.bl_ U0;clear U0;generalize m.heap.size=G at *;refine pT ?_;refine uQ ?_;refine zd fun K hK=>?_;go_simp;have hm:=World.ownsRow_made (base:=w2.heap.size) (e:=4) (size:=1) o #[] 0 hx0.size (dG _) rfl;have f:=(cY o).alloc (.cells #[] 4);replace hb:=hb.ext f;replace hx0:=hx0.trans f;refine hK.out _ _ hx0 ?_;generalize o.alloc _=t at *;generalize o.heap.size=M at *;refine pT ?_;refine uQ ?_;refine zd (fun K hK=>?_);refine zu t _ _ 25 rfl w2.heap.size 4 _ 1 1 Tryz.underlying25 zbe rfl dM (.slice (some M) 0 0) 0 [] rfl hm _ _ A' n' c' (zaB a.acc) rfl (HA.out _ (hw2.trans hx0)) (zfM _) lM oM hx0.size ?_;exact yF07a4
 case rest =>
  obtain⟨G,vA,rfl,d⟩:=hcut;have J:=(b1.ext d.ext).cell;go_wp2_with fail
  go_loopw [4] (fun i wr=>∃ (k:Nat) (v:Value),k<=n∧i=.int .i64 k∧Gra w2 wr G a.al v (a.next.take k) vA a.acc) (fun i _=>n - (intOf i).toNat)
  case atStart=>exact⟨0,_,dG _,rfl,by simpa using d⟩
  case round =>
   clear d J;obtain⟨k,v,hk,rfl,d⟩:=hrel
   by_cases hlt:k<n
   ·obtain⟨U,T,V,l,rfl,_,_,I,E,F⟩:=(HS.out wr (hw2.trans d.ext)).row hlt;have ai:=C.out k l I.out;have O:=za (show a.next.take (k+1)=a.next.take k++[l] by rw [dJ,I.out];rfl);have H:=za (show (a.next.take k).length=k by rw [eK];have:=D.out;omega);obtain⟨s,hv,B⟩:=d.own;have J:=(b1.ext d.ext).cell;go_upto_region 5 with fail
    clear J;have cG:=fun W (hW:Ext wr W)=>(d.blk.ext hW).cell;have hww:=cY wr;have L:=za (fun W (hW:Ext wr W)=>F.ext hW);have C1:∀ W,Ext wr W->∀ q,W.cell? ⟨w.heap.size,q,none⟩=#[Value.int .i64 a.al,.slice (some U) n c,.slice A' n' c'][q]?:=fun W hW=>((b1.ext d.ext).ext hW).cell;have Cr:∀ W,Ext wr W->W.cell? (U.add k)=some (.slice T l.length V):=fun W hW=>hW.aa E;have ah:(k:Int)<(n:Int):=oM;clear E F;refine uR (fun X=>Ext wr X) [10,12] (zv.of [0,1,3,4,5,6,7,2,8,9,10,11,12]) ?_;refine uQ ?_;have hx0:Ext wr wr.drew:=hww.drew;generalize wr.drew=m at *;refine zd fun K hK=>?_;go_simp;have hm:=World.ownsRow_made (base:=wr.heap.size) (e:=3) (size:=1) m #[] 0 hx0.size (dG _) rfl;have f:=(cY m).alloc (.cells #[] 3);replace hx0:=hx0.trans f;refine hK.out _ _ hx0 ?_;generalize m.alloc _=t at *;generalize m.heap.size=M at *;refine pT ?_;refine uQ ?_;refine zd (fun K hK=>?_);refine zu t _ _ 110 rfl wr.heap.size 3 _ 1 8 Tryz.underlying110 zZ rfl dM (.slice (some M) 0 0) 0 [] rfl hm _ _ T l.length V (ints l) rfl (L.out _ hx0) (zhe _) lM oM hx0.size ?_;intro vR w3 g hgR hatR;rw [dP,eA] at g;obtain⟨BR,dR,rfl⟩:=zi g;have j:Ext wr w3:=hx0.grown hgR (fun k hk=>(hm.lt k hk).1);refine hK.out _ _ j ?_;refine pT ?_;refine uQ ?_;refine zd fun K hK=>?_;go_simp;refine hK.out _ _ (j.alloc _) ?_;refine pT ?_;refine zb fun K hK=>?_;refine zaI w2 w3 _ _ _ rfl 110 _ 1 24 Tryz.underlying24 zcf rfl dM v (a.next.take k).length s _ _ rfl rfl (d.ext.trans j).size (zg hv j) rfl (zaS _ _ _) (by unfold maxLen;have:=H.out;omega) (oH H.out) ?_;intro g5 cap5 w5 zhP hg5 hat5 hlt5;refine hK.out _ _ ?_;refine pT ?_;refine uQ ?_;obtain⟨p1,p2,p3⟩:=d.push B hv j g (W':=w5) zhP hg5 hat5;have ak:=p1.out;refine zb fun K hK=>?_;go_simp;refine hK.out _ _ ?_;refine ze ?_;go_wp2_with fail
    go_roundw
    case rel=>exact⟨k+1,_,oM,gM,by rw [O.out];first|exact p3|simpa using p3⟩
    case measure=>simp [intOf];omega
   ·obtain rfl:n=k:=oM;obtain⟨p,r,rfl⟩:∃ p r,v=.slice p n r:=by
     obtain⟨s,hv,_⟩:=d.own;rw [dI (oH D.out),← D.out] at hv;exact zi hv
    obtain⟨u,x,rfl⟩:=zi d.acc;have J:=(b1.ext d.ext).cell;have cG:=d.blk.cell;have y:=bz.ext d.ext;have cZ:=y.cell;have fZ:=y.frozen;have z:=zab wr (w.heap.size+1) (.int .i64 a.al) (.slice p n r) (.slice u a.acc.length x);have R:=zaj y rfl (.int .i64 a.al) (.slice p n r) (.slice u a.acc.length x);have S:=(hw2.trans d.ext).frm z (fun k hk e=>oM);have zhG:=za (show RetAut w a (.returned (.agg #[a.al,.slice p n r,.slice u a.acc.length x])) (((wr.setCell ⟨w.heap.size+1,0,none⟩ a.al).setCell ⟨w.heap.size+1,1,none⟩ (.slice p n r)).setCell ⟨w.heap.size+1,2,none⟩ (.slice u a.acc.length x)) from by
     refine⟨p,n,r,u,a.acc.length,x,rfl,⟨?_,D.out,?_,rfl⟩,S⟩
     ·have Z:=d.own;rw [dI (oH D.out)] at Z;exact (Z.ak z (fun b Q e=>oM)).less oM
     ·exact zo (zaA d.acc z (fun b Q e=>oM)) oM)
    go_wp2_with fail
    generalize ((wr.setCell ⟨w.heap.size+1,0,none⟩ a.al).setCell ⟨w.heap.size+1,1,none⟩ (.slice p n r)).setCell ⟨w.heap.size+1,2,none⟩ (.slice u a.acc.length x)=wf at *;have cf:=R.cell;exact bodyPost_ret (v:=.agg #[a.al,.slice p n r,.slice u a.acc.length x]) (by simp [results,Tryz.results165,go_sem,cf]) rfl zhG.out
end Go.Proofs.YtckbjnndaaoddaaGreatDoor
