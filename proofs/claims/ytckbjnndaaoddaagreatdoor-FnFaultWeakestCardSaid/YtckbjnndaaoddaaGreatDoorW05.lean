/- impl.firstBr -/
import Derived.Test.YtckbjnndaaoddaaGreatDoorW04
import Derived.OwnWalk
set_option maxHeartbeats 8000000
set_option maxRecDepth 100000
namespace Go.Proofs.YtckbjnndaaoddaaGreatDoor
open Go Go.RowKit
open Blk renaming new->dZ
open Bool renaming and_eq_true->dH,true->jU
open Ext renaming bl_->eA,refl->cY
open Int renaming natCast_mul->fW
open List renaming all_eq_true->eK,drop_of_length_le->gP,getElem?_append_right->dT,getElem?_eq_getElem->dB,getElem_mem->gF,replicate->dS,take_length->eJ,take_of_length_le->dJ
open Nat renaming le_refl->dD,mod_lt->gZ,ne_of_lt->eZ,or_lt_two_pow->eP,pow_le_pow_right->eD,zero_add->dW,zero_le->dF
open Go renaming Calls->j6
open Go.Ending renaming returned->j5
open Go.IntKind renaming i64->iX
open Go.Value renaming agg->j2,bool->j7,pointer->kB,slice->fC
open Option renaming none->fV,some->fU
open _root_.Go.Proofs.Tryz renaming prog->j3
variable {AA B B' C C' PA SA:Option Addr}{G:Int}{L ac c c' g hi hi2 lo lo2 n n' pc pn sc:Nat}{a p:Aut}{ss:List Sys}{v:List Nat}{w:World}
theorem yW05d1 {P:Prop}(h:P:=by
 have Kh10:=h10.cell 0;have Zh10:=h10.frozen 0;refine zb fun K hK=>?_;go_simp;have hx2:=hx0.frm (Frm.setCell w23 g10 0 (.slice UA a.next.length uc)) (fun k hk e=>oH hGh10);have hA2:=hA.set h10 dM (.slice UA a.next.length uc);have hP2:=hP.set h10 dM (.slice UA a.next.length uc);have h102:Blk (w23.setCell g10 (.slice UA a.next.length uc)) g10 148 #[.slice UA a.next.length uc]:=by simpa using h10.ae 0 (.slice UA a.next.length uc)
 have h112:=h11.far (p:=⟨g10,0,none⟩) (by first|exact hne|exact hne.symm) (.slice UA a.next.length uc)
 refine hK.out _ _ ?_;refine pT ?_;clear hA hP h10 h11 Kh10 Zh10 hx0;generalize w23.setCell g10 (.slice UA a.next.length uc)=w24 at *;have hA:=hA2;have hP:=hP2;have h10:=h102;have h11:=h112;have hx0:=hx2;clear hA2 hP2 h102 h112 hx2;have Kh11:=h11.cell 0;have Zh11:=h11.frozen 0;refine zb fun K hK=>?_;go_simp;have hx2:=hx0.frm (Frm.setCell w24 g11 0 (.slice RA p.next.length rc)) (fun k hk e=>oH hGh11);have hA2:=hA.set h11 dM (.slice RA p.next.length rc);have hP2:=hP.set h11 dM (.slice RA p.next.length rc);have h112:Blk (w24.setCell g11 (.slice RA p.next.length rc)) g11 148 #[.slice RA p.next.length rc]:=by simpa using h11.ae 0 (.slice RA p.next.length rc)
 have h102:=h10.far (p:=⟨g11,0,none⟩) (by first|exact hne|exact hne.symm) (.slice RA p.next.length rc)
 refine hK.out _ _ ?_;refine pT ?_;clear hA hP h10 h11 Kh11 Zh11 hx0;generalize w24.setCell g11 (.slice RA p.next.length rc)=w25 at *;have hA:=hA2;have hP:=hP2;have h10:=h102;have h11:=h112;have hx0:=hx2;clear hA2 hP2 h102 h112 hx2;refine zg ?_;go_wp2_with fail
 go_meet;exact⟨g10,g11,UA,RA,uc,rc,rfl,rfl,hx0,h10,h11,hA,hP⟩
 ):P:=h
theorem yW05c1 {P:Prop}(h:P:=by
 refine zb fun K hK=>?_;go_simp;refine (hTP.out _ hx0).mono ?_;rintro e w23 ⟨RA,rc,rfl,hP,hx1⟩;replace hx0:=hx0.trans hx1;replace h10:=h10.ext hx1;replace h11:=h11.ext hx1;replace hA:=hA.ext hx1;clear hx1;refine hK.out _ _ ?_;refine pT ?_;exact yW05d1
 ):P:=h
theorem yW05b1 {P:Prop}(h:P:=by
 refine ze fun K hK=>?_;go_simp;refine (hTA.out _ hx0).mono ?_;rintro e w22 ⟨UA,uc,rfl,hA,hx1⟩;replace hx0:=hx0.trans hx1;replace h10:=h10.ext hx1;replace h11:=h11.ext hx1;clear hx1;refine hK.out _ _ hx0 ?_;refine pT ?_;exact yW05c1
 ):P:=h
theorem yW05c2 {P:Prop}(h:P:=by
 exact yW05d1
 ):P:=h
theorem yW05b3 {P:Prop}(h:P:=by
 refine ze fun K hK=>?_;go_simp;have hne:=Nat.ne_of_lt h11.lt;have hGh10:=hx0.size;have hx1:=(Ext.refl w22).alloc (.cells #[()] 148);replace hx0:=hx0.trans hx1;replace h11:=h11.ext hx1;replace hA:=hA.ext hx1;replace hP:=hP.ext hx1;clear hx1;refine hK.out _ _ hx0 ?_;refine pT ?_;generalize U0:w22.alloc _=w23 at *;have h10:=Ext.bl_ U0;clear U0;generalize w22.heap.size=g10 at *;exact yW05c2
 ):P:=h
theorem yW05b4 {P:Prop}(h:P:=by
 exact yW05c1
 ):P:=h
def zbO (a p:Aut) (x:Nat):Bool:=zat a (x / p.next.length % a.next.length)&&!zat p (x % p.next.length)
theorem yW05a1 {P:Prop}(h:P:=by
 refine zn (fun K hK=>?_) (fun K hK=>?_)
 ·go_simp;refine (hTA.out _ hx0).mono ?_;rintro e w21 ⟨UA,uc,rfl,hA,hx1⟩;replace hx0:=hx0.trans hx1;replace h11:=h11.ext hx1;clear hx1;refine hK.out _ _ hx0 ?_;refine pT ?_;refine zn (fun K hK=>?_) (fun K hK=>?_)
  ·go_simp;refine (hTP.out _ hx0).mono ?_;rintro e w22 ⟨RA,rc,rfl,hP,hx1⟩;replace hx0:=hx0.trans hx1;replace h11:=h11.ext hx1;replace hA:=hA.ext hx1;clear hx1;refine hK.out _ _ hx0 ?_;refine pT ?_;exact yW05b3
  ·go_simp;have hne:=Nat.ne_of_lt h11.lt;have hGh10:=hx0.size;have hx1:=(Ext.refl w21).alloc (.cells #[()] 148);replace hx0:=hx0.trans hx1;replace h11:=h11.ext hx1;replace hA:=hA.ext hx1;clear hx1;refine hK.out _ _ hx0 ?_;refine pT ?_;generalize U0:w21.alloc _=w22 at *;have h10:=Ext.bl_ U0;clear U0;generalize w21.heap.size=g10 at *;exact yW05b4
 ·go_simp;have hne:=Nat.ne_of_lt h11.lt;have hGh10:=hx0.size;have hx1:=(Ext.refl w20).alloc (.cells #[()] 148);replace hx0:=hx0.trans hx1;replace h11:=h11.ext hx1;clear hx1;refine hK.out _ _ hx0 ?_;refine pT ?_;generalize U0:w20.alloc _=w21 at *;have h10:=Ext.bl_ U0;clear U0;generalize w20.heap.size=g10 at *;exact yW05b1
 ):P:=h
theorem yW05b2 {P:Prop}(h:P:=by
 refine ze fun K hK=>?_;go_simp;have hne:=Nat.ne_of_lt h10.lt;have hGh11:=hx0.size;have hx1:=(Ext.refl w22).alloc (.cells #[()] 148);replace hx0:=hx0.trans hx1;replace h10:=h10.ext hx1;replace hA:=hA.ext hx1;replace hP:=hP.ext hx1;clear hx1;refine hK.out _ _ hx0 ?_;refine pT ?_;generalize U0:w22.alloc _=w23 at *;have h11:=Ext.bl_ U0;clear U0;generalize w22.heap.size=g11 at *;exact yW05c2
 ):P:=h
theorem yW05a2 {P:Prop}(h:P:=by
 refine zn (fun K hK=>?_) (fun K hK=>?_)
 ·go_simp;refine (hTA.out _ hx0).mono ?_;rintro e w21 ⟨UA,uc,rfl,hA,hx1⟩;replace hx0:=hx0.trans hx1;replace h10:=h10.ext hx1;clear hx1;refine hK.out _ _ hx0 ?_;refine pT ?_;refine zn (fun K hK=>?_) (fun K hK=>?_)
  ·go_simp;refine (hTP.out _ hx0).mono ?_;rintro e w22 ⟨RA,rc,rfl,hP,hx1⟩;replace hx0:=hx0.trans hx1;replace h10:=h10.ext hx1;replace hA:=hA.ext hx1;clear hx1;refine hK.out _ _ hx0 ?_;refine pT ?_;exact yW05b2
  ·go_simp;have hne:=Nat.ne_of_lt h10.lt;have hGh11:=hx0.size;have hx1:=(Ext.refl w21).alloc (.cells #[()] 148);replace hx0:=hx0.trans hx1;replace h10:=h10.ext hx1;replace hA:=hA.ext hx1;clear hx1;refine hK.out _ _ hx0 ?_;refine pT ?_;generalize U0:w21.alloc _=w22 at *;have h11:=Ext.bl_ U0;clear U0;generalize w21.heap.size=g11 at *;exact yW05b4
 ·go_simp;have hne:=Nat.ne_of_lt h10.lt;have hGh11:=hx0.size;have hx1:=(Ext.refl w20).alloc (.cells #[()] 148);replace hx0:=hx0.trans hx1;replace h10:=h10.ext hx1;clear hx1;refine hK.out _ _ hx0 ?_;refine pT ?_;generalize U0:w20.alloc _=w21 at *;have h11:=Ext.bl_ U0;clear U0;generalize w20.heap.size=g11 at *;exact yW05b1
 ):P:=h
theorem yW05c3 {P:Prop}(h:P:=by
 refine zb fun K hK=>?_;go_simp;refine (key.out _ hx0 _ _ _ _ _ hI hIL).mono ?_;rintro e w23 ⟨hx1,hcase⟩;have hx2:=hw9.trans (hx0.trans hx1);rcases hcase with ⟨v,rfl,hF⟩|⟨rfl,hF⟩
 ·have hres:=za (show zT w (zce ss a p) [0] (zbO a p) (letters (U|||al) 6) _ w23 from ⟨hx2,Or.inl ⟨v,rfl,hF⟩⟩);refine hK.out _ _ ?_;refine pT ?_;refine uQ ?_;refine zg ?_;go_wp2_with fail
  go_ret2;exact hres.out
 ·have hres:=za (show zT w (zce ss a p) [0] (zbO a p) (letters (U|||al) 6) _ w23 from ⟨hx2,Or.inr ⟨rfl,hF⟩⟩);refine hK.out _ _ ?_;refine pT ?_;refine uQ ?_;refine zg ?_;go_wp2_with fail
  go_ret2;exact hres.out
 ):P:=h
theorem yW05b6 {P:Prop}(h:P:=by
 exact yW05c3
 ):P:=h
theorem yW05a3 {P:Prop}(h:P:=by
 refine hK.out _ _ hx0 ?_;refine pT ?_;refine uQ ?_;refine zn (fun K hK=>?_) (fun K hK=>?_)
 ·go_simp;have hI:=zdo (x:=0) (Blk.new w20 3 #[.int .i64 ((0:Nat):Int)]);have hx1:=(Ext.refl w20).alloc (.cells #[.int .i64 ((0:Nat):Int)] 3);replace hx0:=hx0.trans hx1;clear hx1;refine hK.out _ _ hx0 ?_;refine pT ?_;generalize w20.alloc _=w21 at *;generalize w20.heap.size=g1 at *;refine ze fun K hK=>?_;go_simp;refine (hLT.out w21).mono ?_;rintro e w22 ⟨AL,cL,rfl,hownL,hx1⟩;have hIL:=zaw.own hownL;clear hownL;replace hx0:=hx0.trans hx1;replace hI:=hI.ext hx1;clear hx1;refine hK.out _ _ hx0 ?_;refine pT ?_;exact yW05b6
 ·go_simp;refine (hLT.out w20).mono ?_;rintro e w21 ⟨AL,cL,rfl,hownL,hx1⟩;have hIL:=zaw.own hownL;clear hownL;replace hx0:=hx0.trans hx1;clear hx1;refine hK.out _ _ hx0 ?_;refine pT ?_;refine ze fun K hK=>?_;go_simp;have hI:=zdo (x:=0) (Blk.new w21 3 #[.int .i64 ((0:Nat):Int)]);have hx1:=(Ext.refl w21).alloc (.cells #[.int .i64 ((0:Nat):Int)] 3);replace hx0:=hx0.trans hx1;replace hIL:=hIL.ext hx1;clear hx1;refine hK.out _ _ hx0 ?_;refine pT ?_;generalize w21.alloc _=w22 at *;generalize w21.heap.size=g1 at *;exact yW05b6
 ):P:=h
theorem yW05a4 {P:Prop}(h:P:=by
 refine ze fun K hK=>?_;go_simp;refine hK.out _ _ hx0 ?_;refine pT ?_;refine uQ ?_;exact yW05b1
 ):P:=h
theorem yW05a5 {P:Prop}(h:P:=by
 exact yW05b2
 ):P:=h
theorem yW05a6 {P:Prop}(h:P:=by
 exact yW05b3
 ):P:=h
theorem yW05a7 {P:Prop}(h:P:=by
 exact yW05b4
 ):P:=h
theorem yW05a8 {P:Prop}(h:P:=by
 have Kh12:=h12.cell 0;have Zh12:=h12.frozen 0;refine ze fun K hK=>?_;go_simp;have hx2:=hx0.frm (Frm.setCell w21 g12 0 (.int .i64 (a.next.length:Nat))) (fun k hk e=>oH hGh12);have h122:Blk (w21.setCell g12 (.int .i64 (a.next.length:Nat))) g12 3 #[.int .i64 (a.next.length:Nat)]:=by simpa using h12.ae 0 (.int .i64 (a.next.length:Nat))
 have h132:=h13.far (p:=⟨g12,0,none⟩) (by first|exact hne|exact hne.symm) (.int .i64 (a.next.length:Nat))
 refine hK.out _ _ hx2 ?_;refine pT ?_;clear h12 h13 Kh12 Zh12 hx0;generalize w21.setCell g12 (.int .i64 (a.next.length:Nat))=w22 at *;have h12:=h122;have h13:=h132;have hx0:=hx2;clear h122 h132 hx2;have Kh13:=h13.cell 0;have Zh13:=h13.frozen 0;refine zb fun K hK=>?_;go_simp;have hx2:=hx0.frm (Frm.setCell w22 g13 0 (.int .i64 (p.next.length:Nat))) (fun k hk e=>oH hGh13);have h132:Blk (w22.setCell g13 (.int .i64 (p.next.length:Nat))) g13 3 #[.int .i64 (p.next.length:Nat)]:=by simpa using h13.ae 0 (.int .i64 (p.next.length:Nat))
 have h122:=h12.far (p:=⟨g13,0,none⟩) (by first|exact hne|exact hne.symm) (.int .i64 (p.next.length:Nat))
 refine hK.out _ _ ?_;refine pT ?_;clear h12 h13 Kh13 Zh13 hx0;generalize w22.setCell g13 (.int .i64 (p.next.length:Nat))=w23 at *;have h12:=h122;have h13:=h132;have hx0:=hx2;clear h122 h132 hx2;refine zg ?_;go_wp2_with fail
 go_meet;exact⟨g12,g13,rfl,rfl,hx0,h12,h13⟩
 ):P:=h
theorem yW05b5 {P:Prop}(h:P:=by
 refine hK.out _ _ hx0 ?_;refine pT ?_;refine uQ ?_;refine ze fun K hK=>?_;go_simp;refine (hLT.out w21).mono ?_;rintro e w22 ⟨AL,cL,rfl,hownL,hx1⟩;have hIL:=zaw.own hownL;clear hownL;replace hx0:=hx0.trans hx1;replace hI:=hI.ext hx1;clear hx1;refine hK.out _ _ hx0 ?_;refine pT ?_;exact yW05c3
 ):P:=h
theorem yW05a9 {P:Prop}(h:P:=by
 refine ze fun K hK=>?_;go_simp;refine (hSZ.out _ hx0).mono (mQ fun w21 hx1=>?_);replace hx0:=hx0.trans hx1;replace hI:=hI.ext hx1;clear hx1;exact yW05b5
 ):P:=h
theorem yW05a10 {P:Prop}(h:P:=by
 refine ze fun K hK=>?_;go_simp;exact yW05b5
 ):P:=h
theorem zgN {k ga:Nat}{A:Option Addr}{m1 d1:Nat}{m1' d1' lo1 hi1:Nat}{m2 d2:Nat}{m2' d2':Nat}  
  (h:zhl w lo hi A k ss) (hap:zE ss=jU) (hT:Tab w) (hga:Blk w ga 27 #[a.al,fC B m1 d1,fC B' m1' d1']) (hA0:zJ w lo1 hi1 B m1 B' m1' a) (hv:zj a=jU) (hP0:zJ w lo2 hi2 C m2 C' m2' p) (hp:zj p=jU) :
  j6 j3 84 #[fC A k c,kB (fU ga),j2 #[p.al,fC C m2 d2,fC C' m2' d2']] w (zT w (zce ss a p) [0] (zbO a p) (letters (zG ss|||a.al.toNat) 6)):=by
 have I:∀ s∈ss,zk s=jU:=by
  unfold zE at hap;simp only [dH,eK] at hap;exact hap.2.2
 have aw:k<=3:=by
  unfold zE at hap;simp only [dH,decide_eq_true_eq] at hap;have:=h.1;omega
 have t:=za (fun (s:Sys) (hs:s∈ss)=>zcj (I s hs));have av:=za (fun (s:Sys) (hs:s∈ss)=>show Few 16 s.edges from by
  obtain⟨q,_,_,hq,hf⟩:=zdg (I s hs);exact fun e he=>by have:=hf e he;omega)
 have hU:zG ss<=63:=by
  have key:∀ l:List Sys,(∀ s∈l,zk s=jU)->zG l<=63:=by
   intro l hl;have:∀ n,zG (l.take n)<=63:=by
    intro n
    induction n with
    |zero=>simp [zG]
    |succ n ih =>
     rcases Nat.lt_or_ge n l.length with O|O
     ·rw [zdd (dB O)];have:=zab (hl _ (gF O));have:=eP (n:=6) (x:=zG (l.take n)) (y:=l[n].al.toNat) oM oM;omega
     ·rw [dJ oM];rw [dJ O] at ih;exact ih
   have h2:=this l.length;rwa [eJ] at h2
  exact key ss I
 have aF:=(zl hv).1;obtain⟨al,E⟩:∃ al:Nat,Hid (a.al=al):=⟨a.al.toNat,by unfold Hid;omega⟩;have a1:al<=63:=oH E.out;have aI:=za (show zbW ss=(zG ss:Int) by unfold zbW;rw [hap];rfl);have ar:=za (show a.al.toNat=al by have:=E.out;omega);have a2:=za (show 0<=p.al/\p.al<=63 from (zl hp).1);rw [ar.out];have HS:=za (fun W (hW:Ext w W)=>h.ext hW);have HT:=za (fun W (hW:Ext w W)=>hT.ext hW);have HA:=za (fun W (hW:Ext w W)=>hA0.ext hW);have HP:=za (fun W (hW:Ext w W)=>hP0.ext hW);have af:=za (fun W (hW:Ext w W)=>hga.ext hW);have Hv:=za hv;have Hp:=za hp;generalize hUe:zG ss=U at *;have HU:=za hUe;clear hUe h hT hA0 hP0 hga hv hp hap I aF
 go_enter Tryz.func84,Tryz.ntmps84
 go_upto_region 1 with fail
 generalize U0:(w.alloc _).alloc _=w2 at *;obtain⟨F,b4,b5⟩:=Ext.x2_ U0;clear U0;go_upto_region 2 with (go_at_call 66;refine (zfQ (HS.out _ F) av.out oM).mono ?_;rintro e w3 ⟨M,dm,rfl,ax,Z⟩)
 have aN:=F.trans Z;have b8:=dZ w3 108 #[fC A k c,fC M k dm];have L:=Z.alloc (.cells #[fC A k c,fC M k dm] 108);have Q:=ax.ext ((cY w3).alloc (.cells #[fC A k c,fC M k dm] 108));generalize hg8:w3.heap.size=g8 at *;clear ax hg8;generalize w3.alloc _=w4 at *;have Y:=F.trans L;clear aN Z;go_upto_region 3 with (go_at_call 86;refine (zdk (HS.out _ Y)).mono ?_;rw [aI.out];rintro e o ⟨rfl,u⟩)
 have T:=b4.ext (L.trans u);have ag:=b5.ext (L.trans u);have ah:=b8.ext u;have R:=Q.ext u;have J:=Y.trans u;have k4:=T.cell 0;clear L u b4 b5 b8 Q F Y;go_upto_region 5 with fail
 clear k4;have ai:=za (fun W (hW:Ext o W)=>T.ext hW);have aj:=za (fun W (hW:Ext o W)=>ag.ext hW);have aC:=za (fun W (hW:Ext o W)=>ah.ext hW);have ao:=za (fun W (hW:Ext o W)=>R.ext hW);clear T ag ah R;have v:=za (fun W (hW:Ext o W)=>af.out W (J.trans hW));have ae:=za (fun W (hW:Ext o W)=>HA.out W (J.trans hW));clear af HA
 go_cut [10,11] (fun v10 v11 wx=>∃ (g10 g11:Nat) (UA RA:Option Addr) (uc rc:Nat),v10=.pointer (fU g10)/\v11=.pointer (fU g11)/\Ext o wx/\Blk wx g10 148 #[fC UA a.next.length uc]/\Blk wx g11 148 #[fC RA p.next.length rc]/\TbO wx UA uc a/\TbO wx RA rc p)
 case first =>
  have c4:∀ W,Ext o W->W.cell? w.heap.size=fU (.pointer (fU ga)):=fun W hW=>by rw [(ai.out W hW).cell];rfl
  have ca:∀ W,Ext o W->∀ j,W.cell? ⟨ga,j,fV⟩=#[Value.int iX a.al,fC B m1 d1,fC B' m1' d1'][j]?:=fun W hW=>(v.out W hW).cell;have c5:∀ W,Ext o W->∀ j,W.cell? ⟨w.heap.size+1,j,fV⟩=#[Value.int iX p.al,fC C m2 d2,fC C' m2' d2'][j]?:=fun W hW=>(aj.out W hW).cell;have hTA:=za (fun W (hW:Ext o W)=>zdm (d:=d1) (d':=d1') (ae.out W hW) Hv.out);have hTP:=za (fun W (hW:Ext o W)=>zdm (d:=d2) (d':=d2') (HP.out W (J.trans hW)) Hp.out);have G:=cY o;refine uR (fun X=>Ext o X) [5,8,9] (zy.app [0,4] (zy.three 1 (zy.app [2] (zy.three 3 (zy.three 5 (zy.two 6 (zy.of [7,8,9]) 7 (zy.of [6,8,9])) 6 (zy.two 5 (zy.of [7,8,9]) 7 (zy.of [5,8,9])) 7 (zy.two 5 (zy.of [6,8,9]) 6 (zy.of [5,8,9]))) 6 (zy.two 3 (zy.two 5 (zy.of [7,8,9]) 7 (zy.of [5,8,9])) 7 (zy.of [3,5,8,9])) 7 (zy.two 3 (zy.two 5 (zy.of [6,8,9]) 6 (zy.of [5,8,9])) 6 (zy.of [3,5,8,9])))) 6 (zy.two 1 (zy.app [2] (zy.two 3 (zy.two 5 (zy.of [7,8,9]) 7 (zy.of [5,8,9])) 7 (zy.of [3,5,8,9]))) 7 (zy.of [1,2,3,5,8,9])) 7 (zy.two 1 (zy.app [2] (zy.two 3 (zy.two 5 (zy.of [6,8,9]) 6 (zy.of [5,8,9])) 6 (zy.of [3,5,8,9]))) 6 (zy.of [1,2,3,5,8,9])))) ?_;refine uQ ?_;have hx0:Ext o o.drew:=G.drew;generalize o.drew=f at *;refine uQ ?_;refine zaQ (fun K hK=>?_) (fun K hK=>?_) (fun K hK=>?_)
  ·go_simp;refine hK.out _ _ hx0 ?_;refine pT ?_;refine uQ ?_;refine zaQ (fun K hK=>?_) (fun K hK=>?_) (fun K hK=>?_)
   ·go_simp;refine (hTA.out _ hx0).mono ?_;rintro e w20 ⟨UA,uc,rfl,hA,hx1⟩;replace hx0:=hx0.trans hx1;clear hx1;refine hK.out _ _ hx0 ?_;refine pT ?_;refine zaQ (fun K hK=>?_) (fun K hK=>?_) (fun K hK=>?_)
    ·go_simp;refine (hTP.out _ hx0).mono ?_;rintro e w21 ⟨RA,rc,rfl,hP,hx1⟩;replace hx0:=hx0.trans hx1;replace hA:=hA.ext hx1;clear hx1;refine hK.out _ _ hx0 ?_;refine pT ?_;refine zn (fun K hK=>?_) (fun K hK=>?_)
     ·go_simp;have hGh10:=hx0.size;have hx1:=(cY w21).alloc (.cells #[()] 148);replace hx0:=hx0.trans hx1;replace hA:=hA.ext hx1;replace hP:=hP.ext hx1;clear hx1;refine hK.out _ _ hx0 ?_;refine pT ?_;generalize U0:w21.alloc _=w22 at *;have h10:=eA U0;clear U0;generalize w21.heap.size=g10 at *;exact yW05a5
     ·go_simp;have hGh11:=hx0.size;have hx1:=(cY w21).alloc (.cells #[()] 148);replace hx0:=hx0.trans hx1;replace hA:=hA.ext hx1;replace hP:=hP.ext hx1;clear hx1;refine hK.out _ _ hx0 ?_;refine pT ?_;generalize U0:w21.alloc _=w22 at *;have h11:=eA U0;clear U0;generalize w21.heap.size=g11 at *;exact yW05a6
    ·go_simp;have hGh10:=hx0.size;have hx1:=(cY w20).alloc (.cells #[()] 148);replace hx0:=hx0.trans hx1;replace hA:=hA.ext hx1;clear hx1;refine hK.out _ _ hx0 ?_;refine pT ?_;generalize U0:w20.alloc _=w21 at *;have h10:=eA U0;clear U0;generalize w20.heap.size=g10 at *;refine zn (fun K hK=>?_) (fun K hK=>?_)
     ·go_simp;refine (hTP.out _ hx0).mono ?_;rintro e w22 ⟨RA,rc,rfl,hP,hx1⟩;replace hx0:=hx0.trans hx1;replace h10:=h10.ext hx1;replace hA:=hA.ext hx1;clear hx1;refine hK.out _ _ hx0 ?_;refine pT ?_;exact yW05a5
     ·go_simp;have hne:=eZ h10.lt;have hGh11:=hx0.size;have hx1:=(cY w21).alloc (.cells #[()] 148);replace hx0:=hx0.trans hx1;replace h10:=h10.ext hx1;replace hA:=hA.ext hx1;clear hx1;refine hK.out _ _ hx0 ?_;refine pT ?_;generalize U0:w21.alloc _=w22 at *;have h11:=eA U0;clear U0;generalize w21.heap.size=g11 at *;exact yW05a7
    ·go_simp;have hGh11:=hx0.size;have hx1:=(cY w20).alloc (.cells #[()] 148);replace hx0:=hx0.trans hx1;replace hA:=hA.ext hx1;clear hx1;refine hK.out _ _ hx0 ?_;refine pT ?_;generalize U0:w20.alloc _=w21 at *;have h11:=eA U0;clear U0;generalize w20.heap.size=g11 at *;refine zn (fun K hK=>?_) (fun K hK=>?_)
     ·go_simp;refine (hTP.out _ hx0).mono ?_;rintro e w22 ⟨RA,rc,rfl,hP,hx1⟩;replace hx0:=hx0.trans hx1;replace h11:=h11.ext hx1;replace hA:=hA.ext hx1;clear hx1;refine hK.out _ _ hx0 ?_;refine pT ?_;exact yW05a6
     ·go_simp;have hne:=eZ h11.lt;have hGh10:=hx0.size;have hx1:=(cY w21).alloc (.cells #[()] 148);replace hx0:=hx0.trans hx1;replace h11:=h11.ext hx1;replace hA:=hA.ext hx1;clear hx1;refine hK.out _ _ hx0 ?_;refine pT ?_;generalize U0:w21.alloc _=w22 at *;have h10:=eA U0;clear U0;generalize w21.heap.size=g10 at *;exact yW05a7
   ·go_simp;have hGh10:=hx0.size;have hx1:=(cY f).alloc (.cells #[()] 148);replace hx0:=hx0.trans hx1;clear hx1;refine hK.out _ _ hx0 ?_;refine pT ?_;generalize U0:f.alloc _=w20 at *;have h10:=eA U0;clear U0;generalize f.heap.size=g10 at *;exact yW05a2
   ·go_simp;have hGh11:=hx0.size;have hx1:=(cY f).alloc (.cells #[()] 148);replace hx0:=hx0.trans hx1;clear hx1;refine hK.out _ _ hx0 ?_;refine pT ?_;generalize U0:f.alloc _=w20 at *;have h11:=eA U0;clear U0;generalize f.heap.size=g11 at *;exact yW05a1
  ·go_simp;have hGh10:=hx0.size;have hx1:=(cY f).alloc (.cells #[()] 148);replace hx0:=hx0.trans hx1;clear hx1;refine hK.out _ _ hx0 ?_;refine pT ?_;generalize U0:f.alloc _=w20 at *;have h10:=eA U0;clear U0;generalize f.heap.size=g10 at *;refine zn (fun K hK=>?_) (fun K hK=>?_)
   ·go_simp;refine hK.out _ _ hx0 ?_;refine pT ?_;refine uQ ?_;exact yW05a2
   ·go_simp;have hne:=eZ h10.lt;have hGh11:=hx0.size;have hx1:=(cY w20).alloc (.cells #[()] 148);replace hx0:=hx0.trans hx1;replace h10:=h10.ext hx1;clear hx1;refine hK.out _ _ hx0 ?_;refine pT ?_;generalize U0:w20.alloc _=w21 at *;have h11:=eA U0;clear U0;generalize w20.heap.size=g11 at *;exact yW05a4
  ·go_simp;have hGh11:=hx0.size;have hx1:=(cY f).alloc (.cells #[()] 148);replace hx0:=hx0.trans hx1;clear hx1;refine hK.out _ _ hx0 ?_;refine pT ?_;generalize U0:f.alloc _=w20 at *;have h11:=eA U0;clear U0;generalize f.heap.size=g11 at *;refine zn (fun K hK=>?_) (fun K hK=>?_)
   ·go_simp;refine hK.out _ _ hx0 ?_;refine pT ?_;refine uQ ?_;exact yW05a1
   ·go_simp;have hne:=eZ h11.lt;have hGh10:=hx0.size;have hx1:=(cY w20).alloc (.cells #[()] 148);replace hx0:=hx0.trans hx1;replace h11:=h11.ext hx1;clear hx1;refine hK.out _ _ hx0 ?_;refine pT ?_;generalize U0:w20.alloc _=w21 at *;have h10:=eA U0;clear U0;generalize w20.heap.size=g10 at *;exact yW05a4
 case rest =>
  obtain⟨g10,g11,UA,RA,uc,rc,rfl,rfl,i,h10,h11,hA,hP⟩:=hcut;have am:=za (fun W (hW:Ext wc W)=>h10.ext hW);have an:=za (fun W (hW:Ext wc W)=>h11.ext hW);have aO:=J.trans i;go_upto_region 6 with fail
  go_cut [12,13] (fun v12 v13 wx=>∃ (g12 g13:Nat),v12=.pointer (fU g12)/\v13=.pointer (fU g13)/\Ext wc wx/\Blk wx g12 3 #[.int iX (a.next.length:Nat)]/\Blk wx g13 3 #[.int iX (p.next.length:Nat)])
  case first =>
   have a6:∀ W,Ext wc W->W.cell? g10=fU (fC UA a.next.length uc):=fun W hW=>by rw [(am.out W hW).cell];rfl
   have a7:∀ W,Ext wc W->W.cell? g11=fU (fC RA p.next.length rc):=fun W hW=>by rw [(an.out W hW).cell];rfl
   have G:=cY wc;clear h10 h11 hA hP;refine uR (fun X=>Ext wc X) [7] (zy.app [0,1,2,3] (zy.two 4 (zy.of [5,6,7]) 5 (zy.of [4,6,7]))) ?_;refine uQ ?_;have hx0:Ext wc wc.drew:=G.drew;generalize wc.drew=f at *;refine uQ ?_;refine zn (fun K hK=>?_) (fun K hK=>?_)
   ·go_simp;have hGh12:=hx0.size;have hx1:=(cY f).alloc (.cells #[(0:Int)] 3);replace hx0:=hx0.trans hx1;clear hx1;refine hK.out _ _ hx0 ?_;refine pT ?_;generalize U0:f.alloc _=w20 at *;have h12:=eA U0;clear U0;generalize f.heap.size=g12 at *;refine ze fun K hK=>?_;go_simp;have hne:=eZ h12.lt;have hGh13:=hx0.size;have hx1:=(cY w20).alloc (.cells #[(0:Int)] 3);replace hx0:=hx0.trans hx1;replace h12:=h12.ext hx1;clear hx1;refine hK.out _ _ hx0 ?_;refine pT ?_;generalize U0:w20.alloc _=w21 at *;have h13:=eA U0;clear U0;generalize w20.heap.size=g13 at *;exact yW05a8
   ·go_simp;have hGh13:=hx0.size;have hx1:=(cY f).alloc (.cells #[(0:Int)] 3);replace hx0:=hx0.trans hx1;clear hx1;refine hK.out _ _ hx0 ?_;refine pT ?_;generalize U0:f.alloc _=w20 at *;have h13:=eA U0;clear U0;generalize f.heap.size=g13 at *;refine ze fun K hK=>?_;go_simp;have hne:=eZ h13.lt;have hGh12:=hx0.size;have hx1:=(cY w20).alloc (.cells #[(0:Int)] 3);replace hx0:=hx0.trans hx1;replace h13:=h13.ext hx1;clear hx1;refine hK.out _ _ hx0 ?_;refine pT ?_;generalize U0:w20.alloc _=w21 at *;have h12:=eA U0;clear U0;generalize w20.heap.size=g12 at *;exact yW05a8
  case rest =>
   obtain⟨g12,g13,rfl,rfl,g,h12,h13⟩:=hcut;rename World=>w7
   have hw9:=aO.trans g;have hC:BCaps w7 g8 g10 g11 g12 g13 A M UA RA k c dm uc rc ss a p:=by
    obtain⟨aP,aG,aL⟩:=hA.at_;obtain⟨aQ,aH,aK⟩:=hP.at_;exact⟨aC.out _ (i.trans g),h10.ext g,h11.ext g,h12,h13,⟨_,_,_,_,ao.out _ (i.trans g)⟩,⟨aP,aG,aL.ext g⟩,⟨aQ,aH,aK.ext g⟩⟩
   have V:GCaps w7 w.heap.size ga (w.heap.size+1) g12 g13 a p:=⟨ai.out _ (i.trans g),⟨B,m1,d1,B',m1',d1',lo1,hi1,v.out _ (i.trans g),ae.out _ (i.trans g)⟩,⟨C,m2,d2,C',m2',d2',lo2,hi2,aj.out _ (i.trans g),HP.out _ hw9⟩,h12,h13⟩;obtain⟨N,hN⟩:∃ N:Nat,Hid (zH (zbh ss [a,p])=N):=⟨_,rfl⟩;obtain⟨⟨_,aT⟩,⟨_,aR⟩⟩:=And.intro (zl Hv.out).2.1 (zl Hp.out).2.1;obtain⟨⟨n1,_⟩,⟨aS,_⟩⟩:=And.intro (zl Hv.out).2.1 (zl Hp.out).2.1;obtain⟨S,hS⟩:∃ S:Nat,Hid (zH (ss.map zdY)=S):=⟨_,rfl⟩;have ap:1<=S/\S<=4096:=by
    rw [<- hS.out];refine⟨zeg t.out,Nat.le_trans (zdq t.out) ?_⟩;have:=(HS.out w (cY _)).1
    calc 16 ^ ss.length<=16 ^ 3:=eD oM oM
     _=4096:=dM
   have H:S*a.next.length*p.next.length=N:=by
    rw [<- hN.out,<- hS.out,show zbh ss [a,p]=ss.map zdY++[zbz a,zbz p] from rfl,zbX];simp [zH,zaz,zbz,Nat.mul_assoc]
   have aq:S*a.next.length<=4096*12:=Nat.mul_le_mul ap.2 aT;have a0:N<=4096*12*12:=by rw [<- H];exact Nat.mul_le_mul aq aR
   have bd:1<=N:=by rw [<- H];exact Nat.mul_pos (Nat.mul_pos ap.1 n1) aS
   obtain⟨sn,ay⟩:∃ z:Nat,Hid (S*a.next.length=z):=⟨_,rfl⟩;rw [ay.out] at H aq;have a3:(S:Int)*(a.next.length:Int)=(sn:Int):=by rw [<- ay.out];exact (fW S _).symm
   have be:(sn:Int)*(p.next.length:Int)=(N:Int):=by rw [<- H];exact (fW sn _).symm
   have Hd:=za (show ∀ x l,x<N->l<6->∀ y∈zce ss a p x l,y<N from fun x l _ hl y hy=>by
    rw [zdj] at hy;rw [<- hN.out];refine ziU (fun mm hmm=>?_) hl y hy;rcases List.mem_append.1 hmm with O|O
    ·obtain⟨s,aJ,rfl⟩:=List.mem_map.1 O;exact zeD (t.out s aJ)
    ·obtain⟨b,au,rfl⟩:=List.mem_map.1 O;simp at au;rcases au with rfl|rfl
     ·exact zbA Hv.out
     ·exact zbA Hp.out)
   have aB:=za (show ∀ x l,(zce ss a p x l).length<=4096 from fun x l=>by
    unfold zce;rw [List.length_map];refine Nat.le_trans (nx_len t.out _ l) ?_;have:=(HS.out w (cY _)).1
    calc 16 ^ ss.length<=16 ^ 3:=eD oM oM
     _=4096:=by decide)
   have r:=za (zgC (U|||al));have key:=za (fun W (hW:Ext w7 W) A1 c1 AL q' cL (hA1:zaw W A1 1 [0]) (hL:zaw W AL q' (letters (U|||al) 6))=>zfK (w:=W) (N:=N) (kn:=173) (kg:=174) (m:=1) (c:=c1) (cL:=cL)
    (capn:=#[kB (fU g10),kB (fU g13),kB (fU g12),kB (fU g11),kB (fU g8)])
    (capg:=#[kB (fU w.heap.size),kB (fU g13),kB (fU g12),kB (fU ⟨w.heap.size+1,0,fV⟩)])
    (goal:=zbO a p) (d:=zce ss a p) (D:=4096) hA1 (fun n hn=>by simp at hn;omega) oM hL r.out oM oM (fun args W=>kM) (fun args W=>kM)
    (fun W' hW' n hn=>brk_goal (V.ext (hW.trans hW')) Hv.out Hp.out oM)
    (fun n l hn hl=>⟨aB.out n l,Hd.out n l hn (r.out.1 l hl)⟩)
    (fun W' hW' n l hn hl base A m c xs hb0 hb hm zkh=>brk_next (hC.ext hW) (HT.out _ (hw9.trans hW)) hW' t.out aw Hv.out Hp.out (by rw [hN.out];exact hn) (r.out.1 l hl) hb0 hb hm zkh))
   have hSZ:=za (show ∀ W,Ext w7 W->j6 j3 176 #[j2 #[fC A k c,fC M k dm]] W fun e w'=>e=j5 (.int iX (S:Nat))/\Ext W w' from fun W hW=>by
    have:=ziT (c:=c) (dm:=dm) (ao.out W ((i.trans g).trans hW)) t.out aw;rw [hS.out] at this;exact this)
   have hLT:=za (fun W=>zaf (U|||al) (by have:=eP (n:=6) (x:=U) (y:=al) oM oM;unfold Sm;omega) W);have bg:bits .or iX (U:Int) (al:Int)=((U|||al:Nat):Int):=zcd tM tM;have c8:=fun W (hW:Ext w7 W)=>(hC.h8.ext hW).cell;have a8:∀ W,Ext w7 W->W.cell? g12=fU (.int iX (a.next.length:Nat)):=fun W hW=>by rw [(hC.h12.ext hW).cell];rfl
   have a9:∀ W,Ext w7 W->W.cell? g13=fU (.int iX (p.next.length:Nat)):=fun W hW=>by rw [(hC.h13.ext hW).cell];rfl
   have c4:∀ W,Ext w7 W->W.cell? w.heap.size=fU (.pointer (fU ga)):=fun W hW=>by rw [(V.h4.ext hW).cell];rfl
   have ca:∀ W,Ext w7 W->∀ j,W.cell? ⟨ga,j,fV⟩=#[Value.int iX (al:Nat),fC B m1 d1,fC B' m1' d1'][j]?:=fun W hW=>by
    have:=(v.out W ((i.trans g).trans hW)).cell;rw [E.out] at this;exact this
   have bh:IntKind.i64.wrap (sn:Int)=(sn:Int):=zgU sn oM;have F:IntKind.i64.wrap (N:Int)=(N:Int):=zgU N oM;have G:=cY w7;clear hC V h10 h11 h12 h13 hA hP;go_upto_region 9 with fail
   refine uR (fun X=>Ext w7 X) [16] (zy.app [0,2,4,7,8,14,15] (zy.three 1 (zy.app [3,5] (zy.two 6 (zy.of [9,10,11,12,13,16,17,18,19,20]) 9 (zy.app [10,11,12] (zy.two 6 (zy.of [13,16,17,18,19,20]) 13 (zy.of [6,16,17,18,19,20]))))) 6 (zy.two 1 (zy.of [3,5,9,10,11,12,13,16,17,18,19,20]) 9 (zy.of [10,11,12,1,3,5,13,16,17,18,19,20])) 9 (zy.app [10,11,12] (zy.two 1 (zy.app [3,5] (zy.two 6 (zy.of [13,16,17,18,19,20]) 13 (zy.of [6,16,17,18,19,20]))) 6 (zy.of [1,3,5,13,16,17,18,19,20]))))) ?_;refine uQ ?_;have hx0:Ext w7 w7.drew:=G.drew;generalize w7.drew=f at *;refine uQ ?_;refine zaQ (fun K hK=>?_) (fun K hK=>?_) (fun K hK=>?_)
   ·go_simp;refine (hSZ.out _ hx0).mono (mQ fun w20 hx1=>?_);replace hx0:=hx0.trans hx1;clear hx1;refine hK.out _ _ hx0 ?_;refine pT ?_;refine uQ ?_;refine zn (fun K hK=>?_) (fun K hK=>?_)
    ·go_simp;have hI:=zdo (x:=0) (dZ w20 3 #[.int iX ((0:Nat):Int)]);have hx1:=(cY w20).alloc (.cells #[.int iX ((0:Nat):Int)] 3);replace hx0:=hx0.trans hx1;clear hx1;refine hK.out _ _ hx0 ?_;refine pT ?_;generalize w20.alloc _=w21 at *;generalize w20.heap.size=g1 at *;exact yW05a10
    ·go_simp;exact yW05a3
   ·go_simp;have hI:=zdo (x:=0) (dZ f 3 #[.int iX ((0:Nat):Int)]);have hx1:=(cY f).alloc (.cells #[.int iX ((0:Nat):Int)] 3);replace hx0:=hx0.trans hx1;clear hx1;refine hK.out _ _ hx0 ?_;refine pT ?_;generalize f.alloc _=w20 at *;generalize f.heap.size=g1 at *;refine zn (fun K hK=>?_) (fun K hK=>?_)
    ·go_simp;refine (hSZ.out _ hx0).mono (mQ fun w21 hx1=>?_);replace hx0:=hx0.trans hx1;replace hI:=hI.ext hx1;clear hx1;refine hK.out _ _ hx0 ?_;refine pT ?_;refine uQ ?_;exact yW05a10
    ·go_simp;refine hK.out _ _ hx0 ?_;refine pT ?_;refine uQ ?_;exact yW05a9
   ·go_simp;refine hK.out _ _ hx0 ?_;refine pT ?_;refine uQ ?_;refine zn (fun K hK=>?_) (fun K hK=>?_)
    ·go_simp;refine (hSZ.out _ hx0).mono (mQ fun w20 hx1=>?_);replace hx0:=hx0.trans hx1;clear hx1;exact yW05a3
    ·go_simp;have hI:=zdo (x:=0) (dZ f 3 #[.int iX ((0:Nat):Int)]);have hx1:=(cY f).alloc (.cells #[.int iX ((0:Nat):Int)] 3);replace hx0:=hx0.trans hx1;clear hx1;refine hK.out _ _ hx0 ?_;refine pT ?_;generalize f.alloc _=w20 at *;generalize f.heap.size=g1 at *;exact yW05a9
noncomputable def lostB (d:Nat->Nat->List Nat) (start:List Nat) (goal:Nat->Bool) (L:List Nat):Bool:=@decide (Lost d start goal L) (Classical.propDecidable _)
noncomputable def zgB (d:Nat->Nat->List Nat) (start:List Nat) (goal:Nat->Bool) (L:List Nat):List Nat:=@dite _ (∃ v,Found d start goal L v) (Classical.propDecidable _) (fun h=>Classical.choose h) (fun _=>[])
section
variable {d:Nat->Nat->List Nat}{start L:List Nat}{goal:Nat->Bool}
theorem found_uniq (h6:∀ l∈L,l<6){u:List Nat}(hu:Found d start goal L u)(hv:Found d start goal L v):u=v:=by
 obtain⟨a,⟨x,c,f⟩,g⟩:=hu;obtain⟨b,⟨y,i,j⟩,k⟩:=hv;have m:¬ zcK u<zcK v:=fun h=>by
  have:=k u a h x c;rw [f] at this;cases this
 have n:¬ zcK v<zcK u:=fun h=>by
  have:=g v b h y i;rw [j] at this;cases this
 exact wval_inj _ u v (dD _) (fun l hl=>h6 l (a l hl)) (fun l hl=>h6 l (b l hl)) oM
theorem zfs (h6:∀ l∈L,l<6) (h:Found d start goal L v):zgB d start goal L=v/\lostB d start goal L=false:=by
 constructor
 ·unfold zgB;rw [@dif_pos _ (Classical.propDecidable _) ⟨v,h⟩];exact found_uniq h6 (Classical.choose_spec (⟨v,h⟩:∃ v,Found d start goal L v)) h
 ·refine @decide_eq_false _ (Classical.propDecidable _) fun hl=>?_;obtain⟨a,⟨x,b,c⟩,_⟩:=h;have:=hl v a x b;rw [c] at this;cases this
theorem zgq (h:Lost d start goal L):zgB d start goal L=[]/\lostB d start goal L=jU:=by
 constructor
 ·unfold zgB;rw [@dif_neg _ (Classical.propDecidable _)];rintro ⟨v,a,⟨x,b,c⟩,_⟩;have:=h v a x b;rw [c] at this;cases this
 ·exact @decide_eq_true _ (Classical.propDecidable _) h
theorem zT.first {e:Ending}{w':World}(h:zT w d start goal L e w')(h6:∀ l∈L,l<6):e=j5 (.tuple #[.string (wstr (zgB d start goal L)),j7 (!lostB d start goal L)])/\Ext w w':=by
 obtain⟨c,⟨v,rfl,hF⟩|⟨rfl,f⟩⟩:=h
 ·obtain⟨a,b⟩:=zfs h6 hF;rw [a,b];exact⟨rfl,c⟩
 ·obtain⟨a,b⟩:=zgq f;rw [a,b];exact⟨rfl,c⟩
end
noncomputable def vioW (ss:List Sys) (a p:Aut):ByteArray:=wstr (zgB (zce ss a p) [0] (zbO a p) (letters (zG ss|||a.al.toNat) 6))
noncomputable def zkc (ss:List Sys) (a p:Aut):Bool:=!lostB (zce ss a p) [0] (zbO a p) (letters (zG ss|||a.al.toNat) 6)
theorem zcq (a:Nat):∀ l∈letters a 6,l<6:=fun _ hl=>(zC.1 hl).1
theorem brkD_free (ss:List Sys) (p:Aut):zce ss free p=pnx (zbh ss [p]):=by
 rw [zdj]
 funext x l
 exact pnx_free ss p x l
theorem brkG_free (p:Aut) (x:Nat):zbO free p x=!zat p (x % p.next.length):=by
 unfold zbO;rw [show free.next.length=1 from rfl,Nat.mod_one];rfl
theorem ziX {s:Sys}(hb:Blk w g 38 #[s.al,s.st,fC B n c])(h:zU w lo hi B n s):∃ lo hi,zhl w lo hi (fU ⟨g,0,fV⟩) 1 [s]:=by
 refine⟨0,hi+g+1,rfl,[.int iX s.al,.int iX s.st,fC B n c],⟨rfl,oM,fun _=>⟨_,rfl,dF _,by dsimp only;omega,fun j u hu=>?_⟩⟩,fun k t ht=>?_⟩
 ·rw [zad,dW,hb.cell];simpa using hu
 ·cases k with
  |zero =>
   simp at ht;subst ht;exact⟨B,n,c,rfl,rfl,rfl,h.1,h.2.more (dF _) oM⟩
  |succ k=>simp at ht
theorem al_one (hb:Blk w g 27 #[a.al,fC B n c,fC B' n' c'])(h:zJ w lo hi B n B' n' a):∃ lo hi,ALAt w lo hi (fU ⟨g,0,fV⟩) 1 [a]:=by
 refine⟨0,hi+g+1,rfl,[.int iX a.al,fC B n c,fC B' n' c'],⟨rfl,oM,fun _=>⟨_,rfl,dF _,by dsimp only;omega,fun j u hu=>?_⟩⟩,fun k t ht=>?_⟩
 ·rw [zad,dW,hb.cell];simpa using hu
 ·cases k with
  |zero =>
   simp at ht;subst ht;exact⟨B,n,c,B',n',c',rfl,rfl,rfl,h.more (dF _) oM⟩
  |succ k=>simp at ht
theorem al_two {m d m' d':Nat}(hb:Blk w g 27 #[a.al,fC B n c,fC B' n' c',p.al,fC C m d,fC C' m' d'])(h:zJ w lo hi B n B' n' a)(h':zJ w lo2 hi2 C m C' m' p):∃ lo hi,ALAt w lo hi (fU ⟨g,0,fV⟩) 2 [a,p]:=by
 refine⟨0,hi+hi2+g+1,rfl,[.int iX a.al,fC B n c,fC B' n' c',.int iX p.al,fC C m d,fC C' m' d'],⟨rfl,oM,fun _=>⟨_,rfl,dF _,by dsimp only;omega,fun j u hu=>?_⟩⟩,fun k t ht=>?_⟩
 ·rw [zad,dW,hb.cell];simpa using hu
 ·match k with
  |0 =>
   simp at ht;subst ht;exact⟨B,n,c,B',n',c',rfl,rfl,rfl,h.more (dF _) oM⟩
  |1 =>
   simp at ht;subst ht;exact⟨C,m,d,C',m',d',rfl,rfl,rfl,h'.more (dF _) oM⟩
  |k+2=>simp at ht
theorem zeros_row {base:Nat}(h:w.ownsRow base 3 1 (fC (fU g) n n) n (zag (dS n 0))):Lst zbs w base w.heap.size (fU ⟨g,0,fV⟩) (dS n 0):=by
 have a:=Lst.ai (xs:=dS n 0) (W:=w) (base:=base) (c:=n) (A:=fU ⟨g,0,fV⟩) (by rw [List.length_replicate];exact h);exact a
theorem zeros_blk {cs:Array Value}(h:Blk w g 3 cs)(hc:cs.toList=zag (dS n 0))(hn:n<=100):Lst zbs w g (g+1) (fU ⟨g,0,fV⟩) (dS n 0):=by
 refine Lst.bf ⟨by simp [zag],by simp;omega,fun _=>⟨_,rfl,dD _,sM,fun j u hu=>?_⟩⟩;rw [zad,dW,h.cell];rw [<- hc] at hu;simpa using hu
theorem zbc (h:zE ss=jU):(1<=ss.length/\ss.length<=3)/\∀ s∈ss,zk s=jU:=by
 unfold zE at h;simp only [dH,decide_eq_true_eq,eK] at h;exact⟨⟨h.1,h.2.1⟩,h.2.2⟩
theorem zkb (h:∀ s∈ss,zk s=jU):zG ss<=63:=by
 have:∀ n,zG (ss.take n)<=63:=by
  intro n
  induction n with
  |zero=>simp [zG]
  |succ n ih =>
   rcases Nat.lt_or_ge n ss.length with a|a
   ·rw [zdd (dB a)];have:=zab (h _ (gF a));have:=eP (n:=6) (x:=zG (ss.take n)) (y:=ss[n].al.toNat) oM oM;omega
   ·rw [dJ oM];rw [dJ a] at ih;exact ih
 have b:=this ss.length;rwa [eJ] at b
theorem first_under (h:zfB w PA pn AA 2 ss [a,p])(hap:zE ss=jU)(hv:zj a=jU)(hp:zj p=jU)(hS:Lst zbs w lo hi SA (dS (pn+2) 0))(hL:L=zG ss|||a.al.toNat) :
  j6 j3 140 #[j2 #[fC PA pn pc,fC AA 2 ac,fC SA (pn+2) sc,L,(2:Int),G]] w fun e w'=>e=j5 (.tuple #[.string (vioW ss a p),j7 (zkc ss a p)])/\Ext w w':=by
 obtain⟨⟨D,q⟩,j⟩:=zbc hap;have d:pn=ss.length:=by obtain⟨_,_,B⟩:=h.sys;exact B.1
 have o:zdZ ss [a,p]:=⟨j,fun b hb=>by simp at hb;rcases hb with rfl|rfl<;>assumption,q,sM⟩
 have H:=zkb j;have C:=(zl hv).1;have i:L<64:=by
  rw [hL];exact eP (n:=6) oM oM
 obtain⟨_,⟨r,_⟩,t,_⟩:=zl hv;obtain⟨_,⟨E,_⟩,F,_⟩:=zl hp;have f:szs ss [a,p]=ss.map (fun s=>s.st.toNat)++[a.next.length,p.next.length]:=rfl;have g:(szs ss [a,p]).length=pn+2:=by rw [f];simp [d]
 have key:=zes (pc:=pc) (ac:=ac) (sc:=sc) (K:=2) (G:=G) (goal:=zbO a p) h o hS g i (fun W hW x A l hh c mv hx hl=>by
  have y:(szs ss [a,p])[pn]?=fU a.next.length:=by rw [f,dT (by simp [d])];simp [d]
  have z:(szs ss [a,p])[pn+1]?=fU p.next.length:=by rw [f,dT (by simp [d])];simp [d]
  have u:(szs ss [a,p]).drop (pn+1)=[p.next.length]:=by
   rw [f,List.drop_append,gP (by simp [d])];simp [d]
  have v:(szs ss [a,p]).drop (pn+1+1)=[]:=gP (by rw [g];omega);have k:=zjs (x:=x) y;have m:=zjs (x:=x) z;rw [u] at k;rw [v] at m;simp only [zaz,Nat.mul_one,Nat.div_one] at k m;exact zjW (h.ext hW) hl (by rw [zdH,g]) k (by rw [t];exact gZ _ r) m (by rw [F];exact gZ _ E))
 refine key.mono fun e w' hr=>?_;have:=hr.first (zcq L)
 rw [<- zdj,hL] at this;exact this
theorem ziI (h:zfB w PA pn AA 1 ss [p])(hap:zE ss=jU)(hp:zj p=jU)(hS:Lst zbs w lo hi SA (dS (pn+1) 0))(hL:L=zG ss) :
  j6 j3 140 #[j2 #[fC PA pn pc,fC AA 1 ac,fC SA (pn+1) sc,L,(3:Int),G]] w fun e w'=>e=j5 (.tuple #[.string (vioW ss free p),j7 (zkc ss free p)])/\Ext w w':=by
 obtain⟨⟨q,k⟩,f⟩:=zbc hap;have d:pn=ss.length:=by obtain⟨_,_,o⟩:=h.sys;exact o.1
 have j:zdZ ss [p]:=⟨f,fun b hb=>by simp at hb;subst hb;assumption,k,sM⟩;have u:=zkb f;obtain⟨_,⟨r,_⟩,t,_⟩:=zl hp;have g:szs ss [p]=ss.map (fun s=>s.st.toNat)++[p.next.length]:=rfl;have a:(szs ss [p]).length=pn+1:=by rw [g];simp [d]
 have key:=zes (pc:=pc) (ac:=ac) (sc:=sc) (K:=3) (G:=G) (goal:=zbO free p) h j hS a (show L<64 by omega) (fun W hW x A l hh c mv hx hl=>by
  have n:(szs ss [p])[pn]?=fU p.next.length:=by rw [g,dT (by simp [d])];simp [d]
  have m:(szs ss [p]).drop (pn+1)=[]:=gP (by rw [a];omega);have i:=zjs (x:=x) n;rw [m] at i;simp only [zaz,Nat.div_one] at i;rw [brkG_free];exact zjX (h.ext hW) hl (by rw [zdH,a]) i (by rw [t];exact gZ _ r))
 refine key.mono fun e w' hr=>?_;have:=hr.first (zcq L)
 rw [<- brkD_free,hL] at this;unfold vioW zkc;rw [show free.al.toNat=0 from rfl,Nat.or_zero];exact this
def zcn (s:Sys) (a p:Aut):Bool:=zk s&&(zj a&&zj p)
noncomputable def zca (s:Sys) (a p:Aut):Bool:=zcn s a p&&zkc [s] a p
noncomputable def zaT (s:Sys) (a p:Aut):ByteArray:=if zcn s a p=jU then vioW [s] a p else ByteArray.empty
noncomputable def zbk (s:Sys) (a p:Aut):Bool:=zcn s a p&&!zkc [s] a p
def zcz (ss:List Sys) (p:Aut):Bool:=zE ss&&zj p
noncomputable def zbB (ss:List Sys) (p:Aut):Bool:=zcz ss p&&zkc ss free p
noncomputable def zaq (ss:List Sys) (p:Aut):ByteArray:=if zcz ss p=jU then vioW ss free p else ByteArray.empty
noncomputable def zaE (ss:List Sys) (p:Aut):Bool:=zcz ss p&&!zkc ss free p
theorem zeK (s:Sys) (a p:Aut):zbk s a p=(zcn s a p&&!zca s a p):=by unfold zbk zca;cases zcn s a p<;>simp
theorem zfp (ss:List Sys) (p:Aut):zaE ss p=(zcz ss p&&!zbB ss p):=by unfold zaE zbB;cases zcz ss p<;>simp
section
variable {lo hi n c:Nat}{A:Option Addr}{s:Sys}{lo1 hi1 m1 d1 m1' d1':Nat}{B B':Option Addr}{a:Aut}{lo2 hi2 m2 d2 m2' d2':Nat}{C C':Option Addr}{p:Aut}{w:World}
theorem zgI (h:zU w lo hi A n s)(ha:zJ w lo1 hi1 B m1 B' m1' a)(hp:zJ w lo2 hi2 C m2 C' m2' p) :
  j6 j3 139 #[j2 #[s.al,s.st,fC A n c],j2 #[a.al,fC B m1 d1,fC B' m1' d1'],j2 #[p.al,fC C m2 d2,fC C' m2' d2']] w fun e w'=>e=j5 (.bool (zcn s a p))/\Ext w w':=by
 have r:=za (fun W (hW:Ext w W)=>zax (c:=c) (h.ext hW));have o:=za (fun W (hW:Ext w W)=>zQ _ _ _ _ d1 _ _ d1' _ _ (ha.ext hW));have q:=za (fun W (hW:Ext w W)=>zQ _ _ _ _ d2 _ _ d2' _ _ (hp.ext hW));have x:=za (show zcn s a p=(zk s&&(zj a&&zj p)) from rfl);clear h ha hp;have f:Ext w (((w.alloc (.cells #[s.al,s.st,fC A n c] 38)).alloc (.cells #[a.al,fC B m1 d1,fC B' m1' d1'] 27)).alloc (.cells #[p.al,fC C m2 d2,fC C' m2' d2'] 27)):=(((cY w).alloc _).alloc _).alloc _;obtain⟨t,u,v⟩:=zK (cY (((w.alloc (.cells #[s.al,s.st,fC A n c] 38)).alloc (.cells #[a.al,fC B m1 d1,fC B' m1' d1'] 27)).alloc (.cells #[p.al,fC C m2 d2,fC C' m2' d2'] 27)));cases h1:zk s<;>cases h2:zj a<;>cases h3:zj p
 all_goals
  have k:=za h1;have l:=za h2;have m:=za h3;clear h1 h2 h3
  go_enter Tryz.func139,Tryz.ntmps139
  go_upto_region 1 with fail
  generalize ((w.alloc _).alloc _).alloc _=E at *;have y:=t.cell;go_wp2_with (first
   |(go_at_call 185;with_reducible refine (r.out _ f).mono ?_;rw [k.out];rintro e F ⟨rfl,hx2⟩;have b:=f.trans hx2;have z:=(u.ext hx2).cell)
   |(go_at_call 79;with_reducible refine (o.out _ b).mono ?_;rw [l.out];rintro e G ⟨rfl,g⟩;have d:=b.trans g;have D:=(v.ext (hx2.trans g)).cell)
   |(go_at_call 79;with_reducible refine (q.out _ d).mono ?_;rw [m.out];rintro e H ⟨rfl,j⟩;have i:=d.trans j))
  go_ret;exact⟨zr (by rw [x.out,k.out,l.out,m.out];rfl),by first|exact i|exact d|exact b⟩
theorem zdb (h:zU w lo hi A n s)(ha:zJ w lo1 hi1 B m1 B' m1' a)(hp:zJ w lo2 hi2 C m2 C' m2' p) :
  j6 j3 59 #[j2 #[s.al,s.st,fC A n c],j2 #[a.al,fC B m1 d1,fC B' m1' d1'],j2 #[p.al,fC C m2 d2,fC C' m2' d2']] w fun e w'=>e=j5 (.tuple #[.string (zaT s a p),j7 (zca s a p)])/\Ext w w':=by
 have V:=za (fun W (hW:Ext w W)=>zgI (c:=c) (d1:=d1) (d1':=d1') (d2:=d2) (d2':=d2') (h.ext hW) (ha.ext hW) (hp.ext hW));have HS:=za (fun W (hW:Ext w W)=>h.ext hW);have HA:=za (fun W (hW:Ext w W)=>ha.ext hW);have HP:=za (fun W (hW:Ext w W)=>hp.ext hW);clear h ha hp;have d:Ext w (((w.alloc (.cells #[s.al,s.st,fC A n c] 38)).alloc (.cells #[a.al,fC B m1 d1,fC B' m1' d1'] 27)).alloc (.cells #[p.al,fC C m2 d2,fC C' m2' d2'] 27)):=(((cY w).alloc _).alloc _).alloc _;obtain⟨g,l,q⟩:=zK (cY (((w.alloc (.cells #[s.al,s.st,fC A n c] 38)).alloc (.cells #[a.al,fC B m1 d1,fC B' m1' d1'] 27)).alloc (.cells #[p.al,fC C m2 d2,fC C' m2' d2'] 27)));cases hT:zcn s a p
 ·have H:=za hT;have E:=za (show zaT s a p=ByteArray.empty/\zca s a p=false by unfold zaT zca;rw [hT];exact⟨rfl,rfl⟩);clear hT
  go_enter Tryz.func59,Tryz.ntmps59
  go_upto_region 1 with fail
  generalize ((w.alloc _).alloc _).alloc _=w1 at *;have X:=g.cell;have Y:=l.cell;have Z:=q.cell;go_wp2_with (go_at_call 139;refine (V.out _ d).mono ?_;rw [H.out];rintro e b ⟨rfl,hx2⟩)
  go_ret2;exact⟨by rw [E.out.1,E.out.2];rfl,d.trans hx2⟩
 ·have hv:zk s=jU/\zj a=jU/\zj p=jU:=by
   unfold zcn at hT;simp only [dH] at hT;exact hT
  obtain⟨T,U,v3⟩:=hv;have H:=za hT;have E:=za (show zaT s a p=vioW [s] a p/\zca s a p=zkc [s] a p by unfold zaT zca;rw [hT];exact⟨rfl,sM⟩);have L:=(zl U).1;have R:=zab T;obtain⟨G,o⟩:∃ al:Nat,Hid (s.al=al):=⟨s.al.toNat,by unfold Hid;omega⟩;obtain⟨al,m⟩:∃ al:Nat,Hid (a.al=al):=⟨a.al.toNat,by unfold Hid;omega⟩;have ag:G<=63:=oH o.out;have af:al<=63:=oH m.out;have ap:bits .or iX (G:Int) (al:Int)=((G|||al:Nat):Int):=zcd tM tM;have J:=za (show (G|||al)=zG [s]|||a.al.toNat by
   have h1:=o.out;have h2:=m.out;rw [h2,Int.toNat_natCast];simp [zG,h1])
  have M:=za (show zE [s]=jU by simp [zE,T]);have V2:=za U;have V3:=za v3;clear hT L R T U v3
  go_enter Tryz.func59,Tryz.ntmps59
  go_upto_region 1 with fail
  generalize ((w.alloc _).alloc _).alloc _=w1 at *;have X:=g.cell;have Y:=l.cell;have Z:=q.cell;go_upto_region 3 with (go_at_call 139;refine (V.out _ d).mono ?_;rw [H.out];rintro e b ⟨rfl,hx2⟩)
  clear X Y Z;replace g:=g.ext hx2;replace l:=l.ext hx2;replace q:=q.ext hx2;have F:=d.trans hx2;clear d hx2;have e1:=dZ b 38 #[s.al,s.st,fC A n c];have r:=(cY b).alloc (.cells #[s.al,s.st,fC A n c] 38);have I:=g;have v:=l.ext r;have x:=q.ext r;have e2:=dZ (b.alloc (.cells #[s.al,s.st,fC A n c] 38)) 27 #[a.al,fC B m1 d1,fC B' m1' d1',p.al,fC C m2 d2,fC C' m2' d2'];have D:=(cY (b.alloc (.cells #[s.al,s.st,fC A n c] 38))).alloc (.cells #[a.al,fC B m1 d1,fC B' m1' d1',p.al,fC C m2 d2,fC C' m2' d2'] 27);have e3:=dZ ((b.alloc (.cells #[s.al,s.st,fC A n c] 38)).alloc (.cells #[a.al,fC B m1 d1,fC B' m1' d1',p.al,fC C m2 d2,fC C' m2' d2'] 27)) 3 #[(0:Int),(0:Int),(0:Int)];have t:=(cY ((b.alloc (.cells #[s.al,s.st,fC A n c] 38)).alloc (.cells #[a.al,fC B m1 d1,fC B' m1' d1',p.al,fC C m2 d2,fC C' m2' d2'] 27))).alloc (.cells #[(0:Int),(0:Int),(0:Int)] 3);have i:=g.ext (r.trans (D.trans t));have j:=l.ext (r.trans (D.trans t));have k1:=g.cell;have k2:=v.cell;have k3:=x.cell;have k4:=(i.cell 0).trans (show #[Value.int iX s.al,.int iX s.st,fC A n c][0]?=fU (Value.int iX (G:Nat)) by rw [o.out];rfl);have k5:=(j.cell 0).trans (show #[Value.int iX a.al,fC B m1 d1,fC B' m1' d1'][0]?=fU (Value.int iX (al:Nat)) by rw [m.out];rfl);have f:=F.trans (r.trans (D.trans t));have k:∃ lo hi,zfB (((b.alloc (.cells #[s.al,s.st,fC A n c] 38)).alloc (.cells #[a.al,fC B m1 d1,fC B' m1' d1',p.al,fC C m2 d2,fC C' m2' d2'] 27)).alloc (.cells #[(0:Int),(0:Int),(0:Int)] 3)) (fU ⟨b.heap.size,0,fV⟩) 1 (fU ⟨b.heap.size+1,0,fV⟩) 2 [s] [a,p]/\Lst zbs (((b.alloc (.cells #[s.al,s.st,fC A n c] 38)).alloc (.cells #[a.al,fC B m1 d1,fC B' m1' d1',p.al,fC C m2 d2,fC C' m2' d2'] 27)).alloc (.cells #[(0:Int),(0:Int),(0:Int)] 3)) lo hi (fU ⟨b.heap.size+1+1,0,fV⟩) (dS 3 0):=by
   have y:=e2.ext t;have z:=e3;simp only [World.size_alloc] at y z;exact⟨_,_,⟨ziX (e1.ext (D.trans t)) (HS.out _ f),al_two y (HA.out _ f) (HP.out _ f)⟩,zeros_blk (n:=3) z rfl oM⟩
  have u:=za k;clear k e1 e2 e3 r D t g l q I v x i j F;go_wp2_with (go_at_call 140;obtain⟨l1,h1,O,Q⟩:=u.out;refine (first_under (pn:=1) O M.out V2.out V3.out Q J.out).mono (mQ fun w4 S=>?_))
  go_ret2;exact⟨by rw [E.out.1,E.out.2];rfl,f.trans S⟩
end
theorem wp_make {P:Program}(w:World){o:Oper}{a:Act}{K:Act->World->Prop}{Q:Exit->Act->World->Prop}(l c:Operand) (t:TypeId)(ho:o.op=.makeSlice t l c)
  (e:TypeId) (z:Value) (size bytes:Nat) (ht:P.underlying t=fU (.slice e)) (hi:(P.info? e).map (fun i=>(i.zero,i.size,i.bytes))=fU (fU z,size,bytes))
  (kl kc:IntKind) (n:Nat) (hl:a.eval l=.int kl (n:Int)) (hc:a.eval c=.int kc (n:Int)) (hbytes:n*bytes<=140737488355328) (h63:n<=maxLen)
  (h:∀ w',w'.ownsRow w.heap.size e size (fC (fU w.heap.size) n n) n (madeCells z.cells (n*size)).toList->Ext w w'->K (a.put o.dst (fC (fU w.heap.size) n n)) w') :
  o.wp P a w K Q:=by
 obtain⟨i,d,f,g,j⟩:=info_parts hi;obtain⟨w',b,k,m⟩:=run_make_full (P:=P) w w.heap.size t e i z size ht d f g kl kc n (by rw [j,Nat.mul_comm];omega) h63 (dD _);unfold Oper.wp;simp [execOp,ho,hl,hc,b,Result.andThen];exact h w' k ((cY _).grown m sM)
section
variable {lo hi n c:Nat}{A:Option Addr}{s:Sys}{lo1 hi1 m1 d1 m1' d1':Nat}{B B':Option Addr}{a:Aut}{lo2 hi2 m2 d2 m2' d2':Nat}{C C':Option Addr}{p:Aut}{w:World}
theorem zhO (h:zU w lo hi A n s)(ha:zJ w lo1 hi1 B m1 B' m1' a)(hp:zJ w lo2 hi2 C m2 C' m2' p) :
  j6 j3 80 #[j2 #[s.al,s.st,fC A n c],j2 #[a.al,fC B m1 d1,fC B' m1' d1'],j2 #[p.al,fC C m2 d2,fC C' m2' d2']] w fun e w'=>e=j5 (.bool (zbk s a p))/\Ext w w':=by
 have m:=za (fun W (hW:Ext w W)=>zgI (c:=c) (d1:=d1) (d1':=d1') (d2:=d2) (d2':=d2') (h.ext hW) (ha.ext hW) (hp.ext hW));have o:=za (fun W (hW:Ext w W)=>zdb (c:=c) (d1:=d1) (d1':=d1') (d2:=d2) (d2':=d2') (h.ext hW) (ha.ext hW) (hp.ext hW));have u:=za (zeK s a p);clear h ha hp;generalize zca s a p=v at *;generalize zaT s a p=D at *;have b:Ext w (((w.alloc (.cells #[s.al,s.st,fC A n c] 38)).alloc (.cells #[a.al,fC B m1 d1,fC B' m1' d1'] 27)).alloc (.cells #[p.al,fC C m2 d2,fC C' m2' d2'] 27)):=(((cY w).alloc _).alloc _).alloc _;obtain⟨j,k,l⟩:=zK (cY (((w.alloc (.cells #[s.al,s.st,fC A n c] 38)).alloc (.cells #[a.al,fC B m1 d1,fC B' m1' d1'] 27)).alloc (.cells #[p.al,fC C m2 d2,fC C' m2' d2'] 27)));cases hT:zcn s a p<;>cases v
 all_goals
  have i:=za hT;clear hT
  go_enter Tryz.func80,Tryz.ntmps80
  go_upto_region 1 with fail
  generalize ((w.alloc _).alloc _).alloc _=E at *;have x:=j.cell;have y:=k.cell;have z:=l.cell;go_wp2_with (first
   |(go_at_call 59;refine (o.out _ b).mono (mQ fun F hx2=>?_);have d:=b.trans hx2;have q:=(j.ext hx2).cell;have r:=(k.ext hx2).cell;have t:=(l.ext hx2).cell)
   |(go_at_call 139;refine (m.out _ d).mono ?_;rw [i.out];rintro e G ⟨rfl,g⟩;have f:=d.trans g))
  go_ret;exact⟨zr (by rw [u.out,i.out];rfl),f⟩
theorem madeZ (n:Nat):(madeCells (Value.int iX 0).cells (n*1)).toList=zag (dS n 0):=by
 simp [Value.cells,toList_madeCells_one,zag]
variable {k:Nat}{ss:List Sys}
theorem zbR (h:zhl w lo hi A k ss)(hp:zJ w lo2 hi2 C m2 C' m2' p) :
  j6 j3 150 #[fC A k c,j2 #[p.al,fC C m2 d2,fC C' m2' d2']] w fun e w'=>e=j5 (.tuple #[.string (zaq ss p),j7 (zbB ss p)])/\Ext w w':=by
 have o:=za (fun W (hW:Ext w W)=>h.ext hW);have v:=za (fun W (hW:Ext w W)=>hp.ext hW);have O:=h.len;have z:=za h.1;clear h hp;have b:Ext w (w.alloc (.cells #[p.al,fC C m2 d2,fC C' m2' d2'] 27)):=(cY w).alloc _;have x:=dZ w 27 #[p.al,fC C m2 d2,fC C' m2' d2'];cases hA:zE ss
 ·have f:=za (show zaq ss p=ByteArray.empty/\zbB ss p=false by unfold zaq zbB zcz;rw [hA];exact⟨rfl,rfl⟩);have g:=za (show zbW ss = -1 by unfold zbW;rw [hA];rfl);clear hA
  go_enter Tryz.func150,Tryz.ntmps150
  go_upto_region 1 with fail
  generalize w.alloc _=I at *;go_wp2_with (go_at_call 206;refine (zbl (o.out _ b)).mono ?_;rw [g.out];rintro e J ⟨rfl,hx2⟩)
  go_ret2;exact⟨by rw [f.out.1,f.out.2];rfl,b.trans hx2⟩
 ·have g:=za (show zbW ss=(zG ss:Int) by unfold zbW;rw [hA];rfl);cases hV:zj p
  ·have f:=za (show zaq ss p=ByteArray.empty/\zbB ss p=false by unfold zaq zbB zcz;rw [hA,hV];exact⟨rfl,rfl⟩);have q:=za hV;clear hA hV
   go_enter Tryz.func150,Tryz.ntmps150
   go_upto_region 1 with fail
   generalize w.alloc _=I at *;go_wp2_with (first
    |(go_at_call 206;refine (zbl (o.out _ b)).mono ?_;rw [g.out];rintro e J ⟨rfl,hx2⟩;have d:=b.trans hx2;have G:=(x.ext hx2).cell)
    |(go_at_call 79;refine (zQ _ _ _ _ _ _ _ _ _ _ (v.out _ d)).mono ?_;rw [q.out];rintro e n ⟨rfl,j⟩;have i:=d.trans j))
   go_ret2;exact⟨by rw [f.out.1,f.out.2];rfl,i⟩
  ·have f:=za (show zaq ss p=vioW ss free p/\zbB ss p=zkc ss free p by unfold zaq zbB zcz;rw [hA,hV];exact⟨rfl,sM⟩);obtain⟨⟨_,t⟩,u⟩:=zbc hA;have H:k<=3:=by rw [z.out];exact t
   have V:=zkb u;have q:=za hV;have E:=za hA;clear hA hV u t;generalize hUe:zG ss=U at *;have F:=za hUe;clear hUe
   go_enter Tryz.func150,Tryz.ntmps150
   go_upto_region 1 with fail
   generalize w.alloc _=I at *;go_upto_region 4 with (first
    |(go_at_call 206;refine (zbl (o.out _ b)).mono ?_;rw [g.out];rintro e J ⟨rfl,hx2⟩;have d:=b.trans hx2;have G:=(x.ext hx2).cell)
    |(go_at_call 79;refine (zQ _ _ _ _ _ _ _ _ _ _ (v.out _ d)).mono ?_;rw [q.out];rintro e n ⟨rfl,j⟩;have i:=d.trans j))
   have r:=x.ext (hx2.trans j);have S:=r.cells;have B:=cY n;have M:IntKind.i64.wrap ((k:Int)+1)=((k+1:Nat):Int):=by rw [<- Int.natCast_succ];exact zgU (k+1) oM
   clear G x r;refine uR (fun X=>Ext n X) [9] (zy.app [0,1,3,4,5,7] (zy.two 2 (zy.of [6,8,9,10,11,12,13]) 6 (zy.of [2,8,9,10,11,12,13]))) ?_;refine uQ ?_;have hx0:Ext n n.drew:=B.drew;generalize n.drew=y at *;refine zn (fun K hK=>?_) (fun K hK=>?_)
   ·go_simp;replace hx0:=hx0.alloc (.cells #[p.al,fC C m2 d2,fC C' m2' d2'] 27);refine hK.out _ _ hx0 ?_;generalize U0:y.alloc _=Q at *;have s:=eA U0;clear U0;generalize y.heap.size=L at *;refine pT ?_;refine ze (fun K hK=>?_);refine wp_make Q _ _ 110 rfl 3 _ 1 8 Tryz.underlying110 zS iX iX (k+1) ?_ ?_ oM lM ?_
    ·go_simp
    ·go_simp
    intro w5 zkt hx5;rw [madeZ] at zkt;replace hx0:=hx0.trans hx5;replace s:=s.ext hx5;refine hK.out _ _ hx0 ?_;refine pT ?_;refine uQ ?_;refine zb fun K hK=>?_;go_simp;have a:=i.trans hx0;refine (ziI (pn:=k) ⟨⟨_,_,o.out _ a⟩,al_one s (v.out _ a)⟩ E.out q.out (zeros_row zkt) F.out.symm).mono (mQ fun R l=>?_);have m:=a.trans l;refine hK.out _ _ ?_;refine pT ?_;refine uQ ?_;refine zg ?_;go_wp2_with fail
    go_ret2;exact⟨by rw [f.out.1,f.out.2];rfl,m⟩
   ·refine wp_make y _ _ 110 rfl 3 _ 1 8 Tryz.underlying110 zS iX iX (k+1) ?_ ?_ oM lM ?_
    ·go_simp
    ·go_simp
    intro w5 zkt hx5;rw [madeZ] at zkt;replace hx0:=hx0.trans hx5;refine hK.out _ _ hx0 ?_;generalize y.heap.size=T at *;refine pT ?_;refine ze fun K hK=>?_;go_simp;have l:=(cY w5).alloc (.cells #[p.al,fC C m2 d2,fC C' m2' d2'] 27);replace hx0:=hx0.trans l;replace zkt:=zi zkt l;refine hK.out _ _ hx0 ?_;generalize U0:w5.alloc _=R at *;have s:=eA U0;clear U0;generalize w5.heap.size=L at *;refine pT ?_;refine uQ ?_;refine zb fun K hK=>?_;go_simp;have a:=i.trans hx0;refine (ziI (pn:=k) ⟨⟨_,_,o.out _ a⟩,al_one s (v.out _ a)⟩ E.out q.out (zeros_row zkt) F.out.symm).mono (mQ fun Y D=>?_);have m:=a.trans D;refine hK.out _ _ ?_;refine pT ?_;refine uQ ?_;refine zg ?_;go_wp2_with fail
    go_ret2;exact⟨by rw [f.out.1,f.out.2];rfl,m⟩
theorem ziu (h:zhl w lo hi A k ss)(hp:zJ w lo2 hi2 C m2 C' m2' p) :
  j6 j3 172 #[fC A k c,j2 #[p.al,fC C m2 d2,fC C' m2' d2']] w fun e w'=>e=j5 (.bool (zaE ss p))/\Ext w w':=by
 have r:=za (fun W (hW:Ext w W)=>zbR (c:=c) (d2:=d2) (d2':=d2') (h.ext hW) (hp.ext hW));have q:=za (fun W (hW:Ext w W)=>h.ext hW);have o:=za (fun W (hW:Ext w W)=>hp.ext hW);have s:=za (show zaE ss p=(zE ss&&zj p&&!zbB ss p) from zfp ss p);clear h hp;generalize zbB ss p=t at *;generalize zaq ss p=x at *;have f:Ext w (w.alloc (.cells #[p.al,fC C m2 d2,fC C' m2' d2'] 27)):=(cY w).alloc _;have m:=dZ w 27 #[p.al,fC C m2 d2,fC C' m2' d2'];cases hA:zE ss<;>cases hVv:zj p<;>cases t
 all_goals
  have n:=za (show zE ss=_ from hA);have a:=za (show zbW ss=if zE ss=jU then (zG ss:Int) else -1 from rfl);rw [hA] at a;have d:=za hVv;clear hA hVv;simp only [Bool.false_eq_true,if_false,if_true] at a
  go_enter Tryz.func172,Tryz.ntmps172
  go_upto_region 1 with fail
  generalize w.alloc _=y at *;have u:=m.cell;go_wp2_with (first
   |(go_at_call 150;refine (r.out _ f).mono (mQ fun z hx2=>?_);have g:=f.trans hx2)
   |(go_at_call 206;refine (zbl (q.out _ g)).mono ?_;rw [a.out];rintro e B ⟨rfl,i⟩;have b:=g.trans i;have v:=(m.ext (hx2.trans i)).cell)
   |(go_at_call 79;refine (zQ _ _ _ _ _ _ _ _ _ _ (o.out _ b)).mono ?_;rw [d.out];rintro e D ⟨rfl,l⟩;have j:=b.trans l))
  go_ret;exact⟨zr (by rw [s.out,n.out,d.out];rfl),by first|exact j|exact b⟩
theorem zgb (h:zU w lo hi A n s)(hp:zJ w lo2 hi2 C m2 C' m2' p) :
  j6 j3 81 #[j2 #[s.al,s.st,fC A n c],j2 #[p.al,fC C m2 d2,fC C' m2' d2']] w fun e w'=>e=j5 (.bool (zaE [s] p))/\Ext w w':=by
 have k:=za (fun W (hW:Ext w W)=>h.ext hW);have j:=za (fun W (hW:Ext w W)=>hp.ext hW);clear h hp
 go_enter Tryz.func81,Tryz.ntmps81
 go_upto_region 1 with fail
 generalize U0:(w.alloc _).alloc _=i at *;obtain⟨d,l,m⟩:=Ext.x2_ U0;clear U0;have q:=l.cell;have o:=dZ i 38 #[s.al,s.st,fC A n c];have g:=(cY i).alloc (.cells #[s.al,s.st,fC A n c] 38);have r:=(m.ext g).cell;have a:=d.trans g;obtain⟨u,t,b⟩:=ziX o (k.out _ a);go_wp2_with (go_at_call 172;refine (ziu b (j.out _ a)).mono (mQ fun v f=>?_))
 go_ret;exact⟨zr rfl,a.trans f⟩
end
end Go.Proofs.YtckbjnndaaoddaaGreatDoor
