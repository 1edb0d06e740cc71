/- impl.firstBr -/
import Derived.Test.YtckbjnndaaoddaaGreatDoorY04
import Derived.OwnWalk
set_option maxHeartbeats 8000000
set_option maxRecDepth 100000
namespace Go.Proofs.YtckbjnndaaoddaaGreatDoor
open Go Go.RowKit
open Blk renaming new->eX
open Bool renaming and_eq_true->eD
open Ext renaming bl_->eS,refl->dE
open Int renaming natCast_mul->iD
open List renaming all_eq_true->fH,drop_of_length_le->gW,getElem?_append_right->eN,getElem?_eq_getElem->dH,getElem_mem->gI,replicate->eQ,take_length->fB,take_of_length_le->eF
open Nat renaming le_refl->dI,mod_lt->iQ,ne_of_lt->fX,or_lt_two_pow->e7,pow_le_pow_right->e6,zero_add->eO,zero_le->eC
variable {AA B B' C C' PA SA:Option Addr} {G:Int} {L ac c c' g hi hi2 lo lo2 n n' pc pn sc:Nat} {a p:Aut} {ss:List Sys} {v:List Nat} {w:World}
theorem yY05d1 {P:Prop}(h:P:=by
 have Kh10:=h10.cell 0;have Zh10:=h10.frozen 0;refine zb fun K hK=>?_;go_simp;have hx2:=hx0.frm (Frm.setCell w23 g10 0 (.slice UA a.next.length uc)) (fun k hk e=>oH hGh10);have hA2:=hA.set h10 dM (.slice UA a.next.length uc);have hP2:=hP.set h10 dM (.slice UA a.next.length uc);have h102:Blk (w23.setCell g10 (.slice UA a.next.length uc)) g10 148 #[.slice UA a.next.length uc]:=by simpa using h10.ab 0 (.slice UA a.next.length uc)
 have h112:=h11.far (p:=⟨g10,0,none⟩) (by first|exact hne|exact hne.symm) (.slice UA a.next.length uc)
 refine hK.out _ _ ?_;refine pT ?_;clear hA hP h10 h11 Kh10 Zh10 hx0;generalize w23.setCell g10 (.slice UA a.next.length uc)=w24 at *;have hA:=hA2;have hP:=hP2;have h10:=h102;have h11:=h112;have hx0:=hx2;clear hA2 hP2 h102 h112 hx2;have Kh11:=h11.cell 0;have Zh11:=h11.frozen 0;refine zb fun K hK=>?_;go_simp;have hx2:=hx0.frm (Frm.setCell w24 g11 0 (.slice RA p.next.length rc)) (fun k hk e=>oH hGh11);have hA2:=hA.set h11 dM (.slice RA p.next.length rc);have hP2:=hP.set h11 dM (.slice RA p.next.length rc);have h112:Blk (w24.setCell g11 (.slice RA p.next.length rc)) g11 148 #[.slice RA p.next.length rc]:=by simpa using h11.ab 0 (.slice RA p.next.length rc)
 have h102:=h10.far (p:=⟨g11,0,none⟩) (by first|exact hne|exact hne.symm) (.slice RA p.next.length rc)
 refine hK.out _ _ ?_;refine pT ?_;clear hA hP h10 h11 Kh11 Zh11 hx0;generalize w24.setCell g11 (.slice RA p.next.length rc)=w25 at *;have hA:=hA2;have hP:=hP2;have h10:=h102;have h11:=h112;have hx0:=hx2;clear hA2 hP2 h102 h112 hx2;refine zg ?_;go_wp2_with fail
 go_meet;exact⟨g10,g11,UA,RA,uc,rc,rfl,rfl,hx0,h10,h11,hA,hP⟩
 ):P:=h
theorem yY05c1 {P:Prop}(h:P:=by
 refine zb fun K hK=>?_;go_simp;refine (hTP.out _ hx0).mono ?_;rintro e w23 ⟨RA,rc,rfl,hP,hx1⟩;replace hx0:=hx0.trans hx1;replace h10:=h10.ext hx1;replace h11:=h11.ext hx1;replace hA:=hA.ext hx1;clear hx1;refine hK.out _ _ ?_;refine pT ?_;exact yY05d1
 ):P:=h
theorem yY05b1 {P:Prop}(h:P:=by
 refine ze fun K hK=>?_;go_simp;refine (hTA.out _ hx0).mono ?_;rintro e w22 ⟨UA,uc,rfl,hA,hx1⟩;replace hx0:=hx0.trans hx1;replace h10:=h10.ext hx1;replace h11:=h11.ext hx1;clear hx1;refine hK.out _ _ hx0 ?_;refine pT ?_;exact yY05c1
 ):P:=h
theorem yY05c2 {P:Prop}(h:P:=by
 exact yY05d1
 ):P:=h
theorem yY05b3 {P:Prop}(h:P:=by
 refine ze fun K hK=>?_;go_simp;have hne:=Nat.ne_of_lt h11.lt;have hGh10:=hx0.size;have hx1:=(Ext.refl w22).alloc (.cells #[()] 148);replace hx0:=hx0.trans hx1;replace h11:=h11.ext hx1;replace hA:=hA.ext hx1;replace hP:=hP.ext hx1;clear hx1;refine hK.out _ _ hx0 ?_;refine pT ?_;generalize U0:w22.alloc _=w23 at *;have h10:=Ext.bl_ U0;clear U0;generalize w22.heap.size=g10 at *;exact yY05c2
 ):P:=h
theorem yY05b4 {P:Prop}(h:P:=by
 exact yY05c1
 ):P:=h
def zbJ (a p:Aut) (x:Nat):Bool:=zct a (x / p.next.length % a.next.length)&&!zct p (x % p.next.length)
theorem yY05a1 {P:Prop}(h:P:=by
 refine zm (fun K hK=>?_) (fun K hK=>?_)
 ·go_simp;refine (hTA.out _ hx0).mono ?_;rintro e w21 ⟨UA,uc,rfl,hA,hx1⟩;replace hx0:=hx0.trans hx1;replace h11:=h11.ext hx1;clear hx1;refine hK.out _ _ hx0 ?_;refine pT ?_;refine zm (fun K hK=>?_) (fun K hK=>?_)
  ·go_simp;refine (hTP.out _ hx0).mono ?_;rintro e w22 ⟨RA,rc,rfl,hP,hx1⟩;replace hx0:=hx0.trans hx1;replace h11:=h11.ext hx1;replace hA:=hA.ext hx1;clear hx1;refine hK.out _ _ hx0 ?_;refine pT ?_;exact yY05b3
  ·go_simp;have hne:=Nat.ne_of_lt h11.lt;have hGh10:=hx0.size;have hx1:=(Ext.refl w21).alloc (.cells #[()] 148);replace hx0:=hx0.trans hx1;replace h11:=h11.ext hx1;replace hA:=hA.ext hx1;clear hx1;refine hK.out _ _ hx0 ?_;refine pT ?_;generalize U0:w21.alloc _=w22 at *;have h10:=Ext.bl_ U0;clear U0;generalize w21.heap.size=g10 at *;exact yY05b4
 ·go_simp;have hne:=Nat.ne_of_lt h11.lt;have hGh10:=hx0.size;have hx1:=(Ext.refl w20).alloc (.cells #[()] 148);replace hx0:=hx0.trans hx1;replace h11:=h11.ext hx1;clear hx1;refine hK.out _ _ hx0 ?_;refine pT ?_;generalize U0:w20.alloc _=w21 at *;have h10:=Ext.bl_ U0;clear U0;generalize w20.heap.size=g10 at *;exact yY05b1
 ):P:=h
theorem yY05b2 {P:Prop}(h:P:=by
 refine ze fun K hK=>?_;go_simp;have hne:=Nat.ne_of_lt h10.lt;have hGh11:=hx0.size;have hx1:=(Ext.refl w22).alloc (.cells #[()] 148);replace hx0:=hx0.trans hx1;replace h10:=h10.ext hx1;replace hA:=hA.ext hx1;replace hP:=hP.ext hx1;clear hx1;refine hK.out _ _ hx0 ?_;refine pT ?_;generalize U0:w22.alloc _=w23 at *;have h11:=Ext.bl_ U0;clear U0;generalize w22.heap.size=g11 at *;exact yY05c2
 ):P:=h
theorem yY05a2 {P:Prop}(h:P:=by
 refine zm (fun K hK=>?_) (fun K hK=>?_)
 ·go_simp;refine (hTA.out _ hx0).mono ?_;rintro e w21 ⟨UA,uc,rfl,hA,hx1⟩;replace hx0:=hx0.trans hx1;replace h10:=h10.ext hx1;clear hx1;refine hK.out _ _ hx0 ?_;refine pT ?_;refine zm (fun K hK=>?_) (fun K hK=>?_)
  ·go_simp;refine (hTP.out _ hx0).mono ?_;rintro e w22 ⟨RA,rc,rfl,hP,hx1⟩;replace hx0:=hx0.trans hx1;replace h10:=h10.ext hx1;replace hA:=hA.ext hx1;clear hx1;refine hK.out _ _ hx0 ?_;refine pT ?_;exact yY05b2
  ·go_simp;have hne:=Nat.ne_of_lt h10.lt;have hGh11:=hx0.size;have hx1:=(Ext.refl w21).alloc (.cells #[()] 148);replace hx0:=hx0.trans hx1;replace h10:=h10.ext hx1;replace hA:=hA.ext hx1;clear hx1;refine hK.out _ _ hx0 ?_;refine pT ?_;generalize U0:w21.alloc _=w22 at *;have h11:=Ext.bl_ U0;clear U0;generalize w21.heap.size=g11 at *;exact yY05b4
 ·go_simp;have hne:=Nat.ne_of_lt h10.lt;have hGh11:=hx0.size;have hx1:=(Ext.refl w20).alloc (.cells #[()] 148);replace hx0:=hx0.trans hx1;replace h10:=h10.ext hx1;clear hx1;refine hK.out _ _ hx0 ?_;refine pT ?_;generalize U0:w20.alloc _=w21 at *;have h11:=Ext.bl_ U0;clear U0;generalize w20.heap.size=g11 at *;exact yY05b1
 ):P:=h
theorem yY05c3 {P:Prop}(h:P:=by
 refine zb fun K hK=>?_;go_simp;refine (key.out _ hx0 _ _ _ _ _ hI hIL).mono ?_;rintro e w23 ⟨hx1,hcase⟩;have hx2:=hw9.trans (hx0.trans hx1);rcases hcase with ⟨v,rfl,hF⟩|⟨rfl,hF⟩
 ·have hres:=za (show zP w (zca ss a p) [0] (zbJ a p) (letters (U|||al) 6) _ w23 from ⟨hx2,Or.inl ⟨v,rfl,hF⟩⟩);refine hK.out _ _ ?_;refine pT ?_;refine uQ ?_;refine zg ?_;go_wp2_with fail
  go_ret2;exact hres.out
 ·have hres:=za (show zP w (zca ss a p) [0] (zbJ a p) (letters (U|||al) 6) _ w23 from ⟨hx2,Or.inr ⟨rfl,hF⟩⟩);refine hK.out _ _ ?_;refine pT ?_;refine uQ ?_;refine zg ?_;go_wp2_with fail
  go_ret2;exact hres.out
 ):P:=h
theorem yY05b6 {P:Prop}(h:P:=by
 exact yY05c3
 ):P:=h
theorem yY05a3 {P:Prop}(h:P:=by
 refine hK.out _ _ hx0 ?_;refine pT ?_;refine uQ ?_;refine zm (fun K hK=>?_) (fun K hK=>?_)
 ·go_simp;have hI:=zdr (x:=0) (Blk.new w20 3 #[.int .i64 ((0:Nat):Int)]);have hx1:=(Ext.refl w20).alloc (.cells #[.int .i64 ((0:Nat):Int)] 3);replace hx0:=hx0.trans hx1;clear hx1;refine hK.out _ _ hx0 ?_;refine pT ?_;generalize w20.alloc _=w21 at *;generalize w20.heap.size=g1 at *;refine ze fun K hK=>?_;go_simp;refine (hLT.out w21).mono ?_;rintro e w22 ⟨AL,cL,rfl,hownL,hx1⟩;have hIL:=zar.own hownL;clear hownL;replace hx0:=hx0.trans hx1;replace hI:=hI.ext hx1;clear hx1;refine hK.out _ _ hx0 ?_;refine pT ?_;exact yY05b6
 ·go_simp;refine (hLT.out w20).mono ?_;rintro e w21 ⟨AL,cL,rfl,hownL,hx1⟩;have hIL:=zar.own hownL;clear hownL;replace hx0:=hx0.trans hx1;clear hx1;refine hK.out _ _ hx0 ?_;refine pT ?_;refine ze fun K hK=>?_;go_simp;have hI:=zdr (x:=0) (Blk.new w21 3 #[.int .i64 ((0:Nat):Int)]);have hx1:=(Ext.refl w21).alloc (.cells #[.int .i64 ((0:Nat):Int)] 3);replace hx0:=hx0.trans hx1;replace hIL:=hIL.ext hx1;clear hx1;refine hK.out _ _ hx0 ?_;refine pT ?_;generalize w21.alloc _=w22 at *;generalize w21.heap.size=g1 at *;exact yY05b6
 ):P:=h
theorem yY05a4 {P:Prop}(h:P:=by
 refine ze fun K hK=>?_;go_simp;refine hK.out _ _ hx0 ?_;refine pT ?_;refine uQ ?_;exact yY05b1
 ):P:=h
theorem yY05a5 {P:Prop}(h:P:=by
 exact yY05b2
 ):P:=h
theorem yY05a6 {P:Prop}(h:P:=by
 exact yY05b3
 ):P:=h
theorem yY05a7 {P:Prop}(h:P:=by
 exact yY05b4
 ):P:=h
theorem yY05a8 {P:Prop}(h:P:=by
 have Kh12:=h12.cell 0;have Zh12:=h12.frozen 0;refine ze fun K hK=>?_;go_simp;have hx2:=hx0.frm (Frm.setCell w21 g12 0 (.int .i64 (a.next.length:Nat))) (fun k hk e=>oH hGh12);have h122:Blk (w21.setCell g12 (.int .i64 (a.next.length:Nat))) g12 3 #[.int .i64 (a.next.length:Nat)]:=by simpa using h12.ab 0 (.int .i64 (a.next.length:Nat))
 have h132:=h13.far (p:=⟨g12,0,none⟩) (by first|exact hne|exact hne.symm) (.int .i64 (a.next.length:Nat))
 refine hK.out _ _ hx2 ?_;refine pT ?_;clear h12 h13 Kh12 Zh12 hx0;generalize w21.setCell g12 (.int .i64 (a.next.length:Nat))=w22 at *;have h12:=h122;have h13:=h132;have hx0:=hx2;clear h122 h132 hx2;have Kh13:=h13.cell 0;have Zh13:=h13.frozen 0;refine zb fun K hK=>?_;go_simp;have hx2:=hx0.frm (Frm.setCell w22 g13 0 (.int .i64 (p.next.length:Nat))) (fun k hk e=>oH hGh13);have h132:Blk (w22.setCell g13 (.int .i64 (p.next.length:Nat))) g13 3 #[.int .i64 (p.next.length:Nat)]:=by simpa using h13.ab 0 (.int .i64 (p.next.length:Nat))
 have h122:=h12.far (p:=⟨g13,0,none⟩) (by first|exact hne|exact hne.symm) (.int .i64 (p.next.length:Nat))
 refine hK.out _ _ ?_;refine pT ?_;clear h12 h13 Kh13 Zh13 hx0;generalize w22.setCell g13 (.int .i64 (p.next.length:Nat))=w23 at *;have h12:=h122;have h13:=h132;have hx0:=hx2;clear h122 h132 hx2;refine zg ?_;go_wp2_with fail
 go_meet;exact⟨g12,g13,rfl,rfl,hx0,h12,h13⟩
 ):P:=h
theorem yY05b5 {P:Prop}(h:P:=by
 refine hK.out _ _ hx0 ?_;refine pT ?_;refine uQ ?_;refine ze fun K hK=>?_;go_simp;refine (hLT.out w21).mono ?_;rintro e w22 ⟨AL,cL,rfl,hownL,hx1⟩;have hIL:=zar.own hownL;clear hownL;replace hx0:=hx0.trans hx1;replace hI:=hI.ext hx1;clear hx1;refine hK.out _ _ hx0 ?_;refine pT ?_;exact yY05c3
 ):P:=h
theorem yY05a9 {P:Prop}(h:P:=by
 refine ze fun K hK=>?_;go_simp;refine (hSZ.out _ hx0).mono (mQ fun w21 hx1=>?_);replace hx0:=hx0.trans hx1;replace hI:=hI.ext hx1;clear hx1;exact yY05b5
 ):P:=h
theorem yY05a10 {P:Prop}(h:P:=by
 refine ze fun K hK=>?_;go_simp;exact yY05b5
 ):P:=h
theorem zgQ {k ga:Nat} {A:Option Addr}   {m1 d1:Nat}  {m1' d1' lo1 hi1:Nat}  {m2 d2:Nat}  {m2' d2':Nat}  
  (h:zdG w lo hi A k ss) (hap:zy ss=true) (hT:Tab w) (hga:Blk w ga 27 #[a.al,.slice B m1 d1,.slice B' m1' d1']) (hA0:zF w lo1 hi1 B m1 B' m1' a) (hv:zj a=true) (hP0:zF w lo2 hi2 C m2 C' m2' p) (hp:zj p=true) :
  Calls Tryz.prog 84 #[.slice A k c,.pointer (some ga),.agg #[p.al,.slice C m2 d2,.slice C' m2' d2']] w (zP w (zca ss a p) [0] (zbJ a p) (letters (zB ss|||a.al.toNat) 6)):=by
 have I:∀ s∈ss,zk s=true:=by
  unfold zy at hap;simp only [eD,fH] at hap;exact hap.2.2
 have aw:k<=3:=by
  unfold zy at hap;simp only [eD,decide_eq_true_eq] at hap;have:=h.1;omega
 have t:=za (fun (s:Sys) (hs:s∈ss)=>zck (I s hs));have av:=za (fun (s:Sys) (hs:s∈ss)=>show Few 16 s.edges from by
  obtain⟨q,_,_,hq,hf⟩:=zcE (I s hs);exact fun e he=>by have:=hf e he;omega)
 have hU:zB ss<=63:=by
  have key:∀ l:List Sys,(∀ s∈l,zk s=true)->zB l<=63:=by
   intro l hl;have:∀ n,zB (l.take n)<=63:=by
    intro n
    induction n with
    |zero=>simp [zB]
    |succ n ih =>
     rcases Nat.lt_or_ge n l.length with O|O
     ·rw [zcs (dH O)];have:=zG (hl _ (gI O));have:=e7 (n:=6) (x:=zB (l.take n)) (y:=l[n].al.toNat) oM oM;omega
     ·rw [eF oM];rw [eF O] at ih;exact ih
   have h2:=this l.length;rwa [fB] at h2
  exact key ss I
 have aF:=(zl hv).1;obtain⟨al,E⟩:∃ al:Nat,Hid (a.al=al):=⟨a.al.toNat,by unfold Hid;omega⟩;have a1:al<=63:=oH E.out;have aI:=za (show zaZ ss=(zB ss:Int) by unfold zaZ;rw [hap];rfl);have ar:=za (show a.al.toNat=al by have:=E.out;omega);have a2:=za (show 0<=p.al∧p.al<=63 from (zl hp).1);rw [ar.out];have HS:=za (fun W (hW:Ext w W)=>h.ext hW);have HT:=za (fun W (hW:Ext w W)=>hT.ext hW);have HA:=za (fun W (hW:Ext w W)=>hA0.ext hW);have HP:=za (fun W (hW:Ext w W)=>hP0.ext hW);have af:=za (fun W (hW:Ext w W)=>hga.ext hW);have Hv:=za hv;have Hp:=za hp;generalize hUe:zB ss=U at *;have HU:=za hUe;clear hUe h hT hA0 hP0 hga hv hp hap I aF
 go_enter Tryz.func84,Tryz.ntmps84
 go_upto_region 1 with fail
 generalize U0:(w.alloc _).alloc _=w2 at *;obtain⟨F,b4,b5⟩:=Ext.x2_ U0;clear U0;go_upto_region 2 with (go_at_call 66;refine (zed (HS.out _ F) av.out oM).mono ?_;rintro e w3 ⟨M,dm,rfl,ax,Z⟩)
 have aN:=F.trans Z;have b8:=eX w3 108 #[.slice A k c,.slice M k dm];have L:=Z.alloc (.cells #[.slice A k c,.slice M k dm] 108);have Q:=ax.ext ((dE w3).alloc (.cells #[.slice A k c,.slice M k dm] 108));generalize hg8:w3.heap.size=g8 at *;clear ax hg8;generalize w3.alloc _=w4 at *;have Y:=F.trans L;clear aN Z;go_upto_region 3 with (go_at_call 86;refine (zdn (HS.out _ Y)).mono ?_;rw [aI.out];rintro e o ⟨rfl,u⟩)
 have T:=b4.ext (L.trans u);have ag:=b5.ext (L.trans u);have ah:=b8.ext u;have R:=Q.ext u;have J:=Y.trans u;have k4:=T.cell 0;clear L u b4 b5 b8 Q F Y;go_upto_region 5 with fail
 clear k4;have ai:=za (fun W (hW:Ext o W)=>T.ext hW);have aj:=za (fun W (hW:Ext o W)=>ag.ext hW);have aC:=za (fun W (hW:Ext o W)=>ah.ext hW);have ao:=za (fun W (hW:Ext o W)=>R.ext hW);clear T ag ah R;have v:=za (fun W (hW:Ext o W)=>af.out W (J.trans hW));have ae:=za (fun W (hW:Ext o W)=>HA.out W (J.trans hW));clear af HA
 go_cut [10,11] (fun v10 v11 wx=>∃ (g10 g11:Nat) (UA RA:Option Addr) (uc rc:Nat),v10=.pointer (some g10)∧v11=.pointer (some g11)∧Ext o wx∧Blk wx g10 148 #[.slice UA a.next.length uc]∧Blk wx g11 148 #[.slice RA p.next.length rc]∧TbO wx UA uc a∧TbO wx RA rc p)
 case first =>
  have c4:∀ W,Ext o W->W.cell? w.heap.size=some (.pointer (some ga)):=fun W hW=>by rw [(ai.out W hW).cell];rfl
  have ca:∀ W,Ext o W->∀ j,W.cell? ⟨ga,j,none⟩=#[Value.int .i64 a.al,.slice B m1 d1,.slice B' m1' d1'][j]?:=fun W hW=>(v.out W hW).cell;have c5:∀ W,Ext o W->∀ j,W.cell? ⟨w.heap.size+1,j,none⟩=#[Value.int .i64 p.al,.slice C m2 d2,.slice C' m2' d2'][j]?:=fun W hW=>(aj.out W hW).cell;have hTA:=za (fun W (hW:Ext o W)=>zdp (d:=d1) (d':=d1') (ae.out W hW) Hv.out);have hTP:=za (fun W (hW:Ext o W)=>zdp (d:=d2) (d':=d2') (HP.out W (J.trans hW)) Hp.out);have G:=dE o;refine uR (fun X=>Ext o X) [5,8,9] (zw.app [0,4] (zw.three 1 (zw.app [2] (zw.three 3 (zw.three 5 (zw.two 6 (zw.of [7,8,9]) 7 (zw.of [6,8,9])) 6 (zw.two 5 (zw.of [7,8,9]) 7 (zw.of [5,8,9])) 7 (zw.two 5 (zw.of [6,8,9]) 6 (zw.of [5,8,9]))) 6 (zw.two 3 (zw.two 5 (zw.of [7,8,9]) 7 (zw.of [5,8,9])) 7 (zw.of [3,5,8,9])) 7 (zw.two 3 (zw.two 5 (zw.of [6,8,9]) 6 (zw.of [5,8,9])) 6 (zw.of [3,5,8,9])))) 6 (zw.two 1 (zw.app [2] (zw.two 3 (zw.two 5 (zw.of [7,8,9]) 7 (zw.of [5,8,9])) 7 (zw.of [3,5,8,9]))) 7 (zw.of [1,2,3,5,8,9])) 7 (zw.two 1 (zw.app [2] (zw.two 3 (zw.two 5 (zw.of [6,8,9]) 6 (zw.of [5,8,9])) 6 (zw.of [3,5,8,9]))) 6 (zw.of [1,2,3,5,8,9])))) ?_;refine uQ ?_;have hx0:Ext o o.drew:=G.drew;generalize o.drew=f at *;refine uQ ?_;refine zaL (fun K hK=>?_) (fun K hK=>?_) (fun K hK=>?_)
  ·go_simp;refine hK.out _ _ hx0 ?_;refine pT ?_;refine uQ ?_;refine zaL (fun K hK=>?_) (fun K hK=>?_) (fun K hK=>?_)
   ·go_simp;refine (hTA.out _ hx0).mono ?_;rintro e w20 ⟨UA,uc,rfl,hA,hx1⟩;replace hx0:=hx0.trans hx1;clear hx1;refine hK.out _ _ hx0 ?_;refine pT ?_;refine zaL (fun K hK=>?_) (fun K hK=>?_) (fun K hK=>?_)
    ·go_simp;refine (hTP.out _ hx0).mono ?_;rintro e w21 ⟨RA,rc,rfl,hP,hx1⟩;replace hx0:=hx0.trans hx1;replace hA:=hA.ext hx1;clear hx1;refine hK.out _ _ hx0 ?_;refine pT ?_;refine zm (fun K hK=>?_) (fun K hK=>?_)
     ·go_simp;have hGh10:=hx0.size;have hx1:=(dE w21).alloc (.cells #[()] 148);replace hx0:=hx0.trans hx1;replace hA:=hA.ext hx1;replace hP:=hP.ext hx1;clear hx1;refine hK.out _ _ hx0 ?_;refine pT ?_;generalize U0:w21.alloc _=w22 at *;have h10:=eS U0;clear U0;generalize w21.heap.size=g10 at *;exact yY05a5
     ·go_simp;have hGh11:=hx0.size;have hx1:=(dE w21).alloc (.cells #[()] 148);replace hx0:=hx0.trans hx1;replace hA:=hA.ext hx1;replace hP:=hP.ext hx1;clear hx1;refine hK.out _ _ hx0 ?_;refine pT ?_;generalize U0:w21.alloc _=w22 at *;have h11:=eS U0;clear U0;generalize w21.heap.size=g11 at *;exact yY05a6
    ·go_simp;have hGh10:=hx0.size;have hx1:=(dE w20).alloc (.cells #[()] 148);replace hx0:=hx0.trans hx1;replace hA:=hA.ext hx1;clear hx1;refine hK.out _ _ hx0 ?_;refine pT ?_;generalize U0:w20.alloc _=w21 at *;have h10:=eS U0;clear U0;generalize w20.heap.size=g10 at *;refine zm (fun K hK=>?_) (fun K hK=>?_)
     ·go_simp;refine (hTP.out _ hx0).mono ?_;rintro e w22 ⟨RA,rc,rfl,hP,hx1⟩;replace hx0:=hx0.trans hx1;replace h10:=h10.ext hx1;replace hA:=hA.ext hx1;clear hx1;refine hK.out _ _ hx0 ?_;refine pT ?_;exact yY05a5
     ·go_simp;have hne:=fX h10.lt;have hGh11:=hx0.size;have hx1:=(dE w21).alloc (.cells #[()] 148);replace hx0:=hx0.trans hx1;replace h10:=h10.ext hx1;replace hA:=hA.ext hx1;clear hx1;refine hK.out _ _ hx0 ?_;refine pT ?_;generalize U0:w21.alloc _=w22 at *;have h11:=eS U0;clear U0;generalize w21.heap.size=g11 at *;exact yY05a7
    ·go_simp;have hGh11:=hx0.size;have hx1:=(dE w20).alloc (.cells #[()] 148);replace hx0:=hx0.trans hx1;replace hA:=hA.ext hx1;clear hx1;refine hK.out _ _ hx0 ?_;refine pT ?_;generalize U0:w20.alloc _=w21 at *;have h11:=eS U0;clear U0;generalize w20.heap.size=g11 at *;refine zm (fun K hK=>?_) (fun K hK=>?_)
     ·go_simp;refine (hTP.out _ hx0).mono ?_;rintro e w22 ⟨RA,rc,rfl,hP,hx1⟩;replace hx0:=hx0.trans hx1;replace h11:=h11.ext hx1;replace hA:=hA.ext hx1;clear hx1;refine hK.out _ _ hx0 ?_;refine pT ?_;exact yY05a6
     ·go_simp;have hne:=fX h11.lt;have hGh10:=hx0.size;have hx1:=(dE w21).alloc (.cells #[()] 148);replace hx0:=hx0.trans hx1;replace h11:=h11.ext hx1;replace hA:=hA.ext hx1;clear hx1;refine hK.out _ _ hx0 ?_;refine pT ?_;generalize U0:w21.alloc _=w22 at *;have h10:=eS U0;clear U0;generalize w21.heap.size=g10 at *;exact yY05a7
   ·go_simp;have hGh10:=hx0.size;have hx1:=(dE f).alloc (.cells #[()] 148);replace hx0:=hx0.trans hx1;clear hx1;refine hK.out _ _ hx0 ?_;refine pT ?_;generalize U0:f.alloc _=w20 at *;have h10:=eS U0;clear U0;generalize f.heap.size=g10 at *;exact yY05a2
   ·go_simp;have hGh11:=hx0.size;have hx1:=(dE f).alloc (.cells #[()] 148);replace hx0:=hx0.trans hx1;clear hx1;refine hK.out _ _ hx0 ?_;refine pT ?_;generalize U0:f.alloc _=w20 at *;have h11:=eS U0;clear U0;generalize f.heap.size=g11 at *;exact yY05a1
  ·go_simp;have hGh10:=hx0.size;have hx1:=(dE f).alloc (.cells #[()] 148);replace hx0:=hx0.trans hx1;clear hx1;refine hK.out _ _ hx0 ?_;refine pT ?_;generalize U0:f.alloc _=w20 at *;have h10:=eS U0;clear U0;generalize f.heap.size=g10 at *;refine zm (fun K hK=>?_) (fun K hK=>?_)
   ·go_simp;refine hK.out _ _ hx0 ?_;refine pT ?_;refine uQ ?_;exact yY05a2
   ·go_simp;have hne:=fX h10.lt;have hGh11:=hx0.size;have hx1:=(dE w20).alloc (.cells #[()] 148);replace hx0:=hx0.trans hx1;replace h10:=h10.ext hx1;clear hx1;refine hK.out _ _ hx0 ?_;refine pT ?_;generalize U0:w20.alloc _=w21 at *;have h11:=eS U0;clear U0;generalize w20.heap.size=g11 at *;exact yY05a4
  ·go_simp;have hGh11:=hx0.size;have hx1:=(dE f).alloc (.cells #[()] 148);replace hx0:=hx0.trans hx1;clear hx1;refine hK.out _ _ hx0 ?_;refine pT ?_;generalize U0:f.alloc _=w20 at *;have h11:=eS U0;clear U0;generalize f.heap.size=g11 at *;refine zm (fun K hK=>?_) (fun K hK=>?_)
   ·go_simp;refine hK.out _ _ hx0 ?_;refine pT ?_;refine uQ ?_;exact yY05a1
   ·go_simp;have hne:=fX h11.lt;have hGh10:=hx0.size;have hx1:=(dE w20).alloc (.cells #[()] 148);replace hx0:=hx0.trans hx1;replace h11:=h11.ext hx1;clear hx1;refine hK.out _ _ hx0 ?_;refine pT ?_;generalize U0:w20.alloc _=w21 at *;have h10:=eS U0;clear U0;generalize w20.heap.size=g10 at *;exact yY05a4
 case rest =>
  obtain⟨g10,g11,UA,RA,uc,rc,rfl,rfl,i,h10,h11,hA,hP⟩:=hcut;have am:=za (fun W (hW:Ext wc W)=>h10.ext hW);have an:=za (fun W (hW:Ext wc W)=>h11.ext hW);have aO:=J.trans i;go_upto_region 6 with fail
  go_cut [12,13] (fun v12 v13 wx=>∃ (g12 g13:Nat),v12=.pointer (some g12)∧v13=.pointer (some g13)∧Ext wc wx∧Blk wx g12 3 #[.int .i64 (a.next.length:Nat)]∧Blk wx g13 3 #[.int .i64 (p.next.length:Nat)])
  case first =>
   have a6:∀ W,Ext wc W->W.cell? g10=some (.slice UA a.next.length uc):=fun W hW=>by rw [(am.out W hW).cell];rfl
   have a7:∀ W,Ext wc W->W.cell? g11=some (.slice RA p.next.length rc):=fun W hW=>by rw [(an.out W hW).cell];rfl
   have G:=dE wc;clear h10 h11 hA hP;refine uR (fun X=>Ext wc X) [7] (zw.app [0,1,2,3] (zw.two 4 (zw.of [5,6,7]) 5 (zw.of [4,6,7]))) ?_;refine uQ ?_;have hx0:Ext wc wc.drew:=G.drew;generalize wc.drew=f at *;refine uQ ?_;refine zm (fun K hK=>?_) (fun K hK=>?_)
   ·go_simp;have hGh12:=hx0.size;have hx1:=(dE f).alloc (.cells #[(0:Int)] 3);replace hx0:=hx0.trans hx1;clear hx1;refine hK.out _ _ hx0 ?_;refine pT ?_;generalize U0:f.alloc _=w20 at *;have h12:=eS U0;clear U0;generalize f.heap.size=g12 at *;refine ze fun K hK=>?_;go_simp;have hne:=fX h12.lt;have hGh13:=hx0.size;have hx1:=(dE w20).alloc (.cells #[(0:Int)] 3);replace hx0:=hx0.trans hx1;replace h12:=h12.ext hx1;clear hx1;refine hK.out _ _ hx0 ?_;refine pT ?_;generalize U0:w20.alloc _=w21 at *;have h13:=eS U0;clear U0;generalize w20.heap.size=g13 at *;exact yY05a8
   ·go_simp;have hGh13:=hx0.size;have hx1:=(dE f).alloc (.cells #[(0:Int)] 3);replace hx0:=hx0.trans hx1;clear hx1;refine hK.out _ _ hx0 ?_;refine pT ?_;generalize U0:f.alloc _=w20 at *;have h13:=eS U0;clear U0;generalize f.heap.size=g13 at *;refine ze fun K hK=>?_;go_simp;have hne:=fX h13.lt;have hGh12:=hx0.size;have hx1:=(dE w20).alloc (.cells #[(0:Int)] 3);replace hx0:=hx0.trans hx1;replace h13:=h13.ext hx1;clear hx1;refine hK.out _ _ hx0 ?_;refine pT ?_;generalize U0:w20.alloc _=w21 at *;have h12:=eS U0;clear U0;generalize w20.heap.size=g12 at *;exact yY05a8
  case rest =>
   obtain⟨g12,g13,rfl,rfl,g,h12,h13⟩:=hcut;rename World=>w7
   have hw9:=aO.trans g;have hC:BCaps w7 g8 g10 g11 g12 g13 A M UA RA k c dm uc rc ss a p:=by
    obtain⟨aP,aG,aL⟩:=hA.at_;obtain⟨aQ,aH,aK⟩:=hP.at_;exact⟨aC.out _ (i.trans g),h10.ext g,h11.ext g,h12,h13,⟨_,_,_,_,ao.out _ (i.trans g)⟩,⟨aP,aG,aL.ext g⟩,⟨aQ,aH,aK.ext g⟩⟩
   have V:GCaps w7 w.heap.size ga (w.heap.size+1) g12 g13 a p:=⟨ai.out _ (i.trans g),⟨B,m1,d1,B',m1',d1',lo1,hi1,v.out _ (i.trans g),ae.out _ (i.trans g)⟩,⟨C,m2,d2,C',m2',d2',lo2,hi2,aj.out _ (i.trans g),HP.out _ hw9⟩,h12,h13⟩;obtain⟨N,hN⟩:∃ N:Nat,Hid (zE (zbl ss [a,p])=N):=⟨_,rfl⟩;obtain⟨⟨_,aT⟩,⟨_,aR⟩⟩:=And.intro (zl Hv.out).2.1 (zl Hp.out).2.1;obtain⟨⟨n1,_⟩,⟨aS,_⟩⟩:=And.intro (zl Hv.out).2.1 (zl Hp.out).2.1;obtain⟨S,hS⟩:∃ S:Nat,Hid (zE (ss.map zdQ)=S):=⟨_,rfl⟩;have ap:1<=S∧S<=4096:=by
    rw [← hS.out];refine⟨zeh t.out,Nat.le_trans (zdu t.out) ?_⟩;have:=(HS.out w (dE _)).1
    calc 16 ^ ss.length<=16 ^ 3:=e6 oM oM
     _=4096:=dM
   have H:S*a.next.length*p.next.length=N:=by
    rw [← hN.out,← hS.out,show zbl ss [a,p]=ss.map zdQ++[zbv a,zbv p] from rfl,zbU];simp [zE,zav,zbv,Nat.mul_assoc]
   have aq:S*a.next.length<=4096*12:=Nat.mul_le_mul ap.2 aT;have a0:N<=4096*12*12:=by rw [← H];exact Nat.mul_le_mul aq aR
   have bd:1<=N:=by rw [← H];exact Nat.mul_pos (Nat.mul_pos ap.1 n1) aS
   obtain⟨sn,ay⟩:∃ z:Nat,Hid (S*a.next.length=z):=⟨_,rfl⟩;rw [ay.out] at H aq;have a3:(S:Int)*(a.next.length:Int)=(sn:Int):=by rw [← ay.out];exact (iD S _).symm
   have be:(sn:Int)*(p.next.length:Int)=(N:Int):=by rw [← H];exact (iD sn _).symm
   have Hd:=za (show ∀ x l,x<N->l<6->∀ y∈zca ss a p x l,y<N from fun x l _ hl y hy=>by
    rw [zdl] at hy;rw [← hN.out];refine ziX (fun mm hmm=>?_) hl y hy;rcases List.mem_append.1 hmm with O|O
    ·obtain⟨s,aJ,rfl⟩:=List.mem_map.1 O;exact zei (t.out s aJ)
    ·obtain⟨b,au,rfl⟩:=List.mem_map.1 O;simp at au;rcases au with rfl|rfl
     ·exact zbw Hv.out
     ·exact zbw Hp.out)
   have aB:=za (show ∀ x l,(zca ss a p x l).length<=4096 from fun x l=>by
    unfold zca;rw [List.length_map];refine Nat.le_trans (nx_len t.out _ l) ?_;have:=(HS.out w (dE _)).1
    calc 16 ^ ss.length<=16 ^ 3:=e6 oM oM
     _=4096:=by decide)
   have r:=za (zgG (U|||al));have key:=za (fun W (hW:Ext w7 W) A1 c1 AL q' cL (hA1:zar W A1 1 [0]) (hL:zar W AL q' (letters (U|||al) 6))=>zfM (w:=W) (N:=N) (kn:=173) (kg:=174) (m:=1) (c:=c1) (cL:=cL)
    (capn:=#[.pointer (some g10),.pointer (some g13),.pointer (some g12),.pointer (some g11),.pointer (some g8)])
    (capg:=#[.pointer (some w.heap.size),.pointer (some g13),.pointer (some g12),.pointer (some ⟨w.heap.size+1,0,none⟩)])
    (goal:=zbJ a p) (d:=zca ss a p) (D:=4096) hA1 (fun n hn=>by simp at hn;omega) oM hL r.out oM oM (fun args W=>kM) (fun args W=>kM)
    (fun W' hW' n hn=>brk_goal (V.ext (hW.trans hW')) Hv.out Hp.out oM)
    (fun n l hn hl=>⟨aB.out n l,Hd.out n l hn (r.out.1 l hl)⟩)
    (fun W' hW' n l hn hl base A m c xs hb0 hb hm zkf=>brk_next (hC.ext hW) (HT.out _ (hw9.trans hW)) hW' t.out aw Hv.out Hp.out (by rw [hN.out];exact hn) (r.out.1 l hl) hb0 hb hm zkf))
   have hSZ:=za (show ∀ W,Ext w7 W->Calls Tryz.prog 176 #[.agg #[.slice A k c,.slice M k dm]] W fun e w'=>e=.returned (.int .i64 (S:Nat))∧Ext W w' from fun W hW=>by
    have:=ziW (c:=c) (dm:=dm) (ao.out W ((i.trans g).trans hW)) t.out aw;rw [hS.out] at this;exact this)
   have hLT:=za (fun W=>zag (U|||al) (by have:=e7 (n:=6) (x:=U) (y:=al) oM oM;unfold Sm;omega) W);have bg:bits .or .i64 (U:Int) (al:Int)=((U|||al:Nat):Int):=zbb tM tM;have c8:=fun W (hW:Ext w7 W)=>(hC.h8.ext hW).cell;have a8:∀ W,Ext w7 W->W.cell? g12=some (.int .i64 (a.next.length:Nat)):=fun W hW=>by rw [(hC.h12.ext hW).cell];rfl
   have a9:∀ W,Ext w7 W->W.cell? g13=some (.int .i64 (p.next.length:Nat)):=fun W hW=>by rw [(hC.h13.ext hW).cell];rfl
   have c4:∀ W,Ext w7 W->W.cell? w.heap.size=some (.pointer (some ga)):=fun W hW=>by rw [(V.h4.ext hW).cell];rfl
   have ca:∀ W,Ext w7 W->∀ j,W.cell? ⟨ga,j,none⟩=#[Value.int .i64 (al:Nat),.slice B m1 d1,.slice B' m1' d1'][j]?:=fun W hW=>by
    have:=(v.out W ((i.trans g).trans hW)).cell;rw [E.out] at this;exact this
   have bh:IntKind.i64.wrap (sn:Int)=(sn:Int):=zha sn oM;have F:IntKind.i64.wrap (N:Int)=(N:Int):=zha N oM;have G:=dE w7;clear hC V h10 h11 h12 h13 hA hP;go_upto_region 9 with fail
   refine uR (fun X=>Ext w7 X) [16] (zw.app [0,2,4,7,8,14,15] (zw.three 1 (zw.app [3,5] (zw.two 6 (zw.of [9,10,11,12,13,16,17,18,19,20]) 9 (zw.app [10,11,12] (zw.two 6 (zw.of [13,16,17,18,19,20]) 13 (zw.of [6,16,17,18,19,20]))))) 6 (zw.two 1 (zw.of [3,5,9,10,11,12,13,16,17,18,19,20]) 9 (zw.of [10,11,12,1,3,5,13,16,17,18,19,20])) 9 (zw.app [10,11,12] (zw.two 1 (zw.app [3,5] (zw.two 6 (zw.of [13,16,17,18,19,20]) 13 (zw.of [6,16,17,18,19,20]))) 6 (zw.of [1,3,5,13,16,17,18,19,20]))))) ?_;refine uQ ?_;have hx0:Ext w7 w7.drew:=G.drew;generalize w7.drew=f at *;refine uQ ?_;refine zaL (fun K hK=>?_) (fun K hK=>?_) (fun K hK=>?_)
   ·go_simp;refine (hSZ.out _ hx0).mono (mQ fun w20 hx1=>?_);replace hx0:=hx0.trans hx1;clear hx1;refine hK.out _ _ hx0 ?_;refine pT ?_;refine uQ ?_;refine zm (fun K hK=>?_) (fun K hK=>?_)
    ·go_simp;have hI:=zdr (x:=0) (eX w20 3 #[.int .i64 ((0:Nat):Int)]);have hx1:=(dE w20).alloc (.cells #[.int .i64 ((0:Nat):Int)] 3);replace hx0:=hx0.trans hx1;clear hx1;refine hK.out _ _ hx0 ?_;refine pT ?_;generalize w20.alloc _=w21 at *;generalize w20.heap.size=g1 at *;exact yY05a10
    ·go_simp;exact yY05a3
   ·go_simp;have hI:=zdr (x:=0) (eX f 3 #[.int .i64 ((0:Nat):Int)]);have hx1:=(dE f).alloc (.cells #[.int .i64 ((0:Nat):Int)] 3);replace hx0:=hx0.trans hx1;clear hx1;refine hK.out _ _ hx0 ?_;refine pT ?_;generalize f.alloc _=w20 at *;generalize f.heap.size=g1 at *;refine zm (fun K hK=>?_) (fun K hK=>?_)
    ·go_simp;refine (hSZ.out _ hx0).mono (mQ fun w21 hx1=>?_);replace hx0:=hx0.trans hx1;replace hI:=hI.ext hx1;clear hx1;refine hK.out _ _ hx0 ?_;refine pT ?_;refine uQ ?_;exact yY05a10
    ·go_simp;refine hK.out _ _ hx0 ?_;refine pT ?_;refine uQ ?_;exact yY05a9
   ·go_simp;refine hK.out _ _ hx0 ?_;refine pT ?_;refine uQ ?_;refine zm (fun K hK=>?_) (fun K hK=>?_)
    ·go_simp;refine (hSZ.out _ hx0).mono (mQ fun w20 hx1=>?_);replace hx0:=hx0.trans hx1;clear hx1;exact yY05a3
    ·go_simp;have hI:=zdr (x:=0) (eX f 3 #[.int .i64 ((0:Nat):Int)]);have hx1:=(dE f).alloc (.cells #[.int .i64 ((0:Nat):Int)] 3);replace hx0:=hx0.trans hx1;clear hx1;refine hK.out _ _ hx0 ?_;refine pT ?_;generalize f.alloc _=w20 at *;generalize f.heap.size=g1 at *;exact yY05a9
noncomputable def lostB (d:Nat->Nat->List Nat) (start:List Nat) (goal:Nat->Bool) (L:List Nat):Bool:=@decide (Lost d start goal L) (Classical.propDecidable _)
noncomputable def zgF (d:Nat->Nat->List Nat) (start:List Nat) (goal:Nat->Bool) (L:List Nat):List Nat:=@dite _ (∃ v,Found d start goal L v) (Classical.propDecidable _) (fun h=>Classical.choose h) (fun _=>[])
section
variable {d:Nat->Nat->List Nat} {start L:List Nat} {goal:Nat->Bool}
theorem found_uniq (h6:∀ l∈L,l<6) {u:List Nat}(hu:Found d start goal L u)(hv:Found d start goal L v):u=v:=by
 obtain⟨a,⟨x,c,f⟩,g⟩:=hu;obtain⟨b,⟨y,i,j⟩,k⟩:=hv;have m:¬ zcF u<zcF v:=fun h=>by
  have:=k u a h x c;rw [f] at this;cases this
 have n:¬ zcF v<zcF u:=fun h=>by
  have:=g v b h y i;rw [j] at this;cases this
 exact zke _ u v (dI _) (fun l hl=>h6 l (a l hl)) (fun l hl=>h6 l (b l hl)) oM
theorem zfr (h6:∀ l∈L,l<6) (h:Found d start goal L v):zgF d start goal L=v∧lostB d start goal L=false:=by
 constructor
 ·unfold zgF;rw [@dif_pos _ (Classical.propDecidable _) ⟨v,h⟩];exact found_uniq h6 (Classical.choose_spec (⟨v,h⟩:∃ v,Found d start goal L v)) h
 ·refine @decide_eq_false _ (Classical.propDecidable _) fun hl=>?_;obtain⟨a,⟨x,b,c⟩,_⟩:=h;have:=hl v a x b;rw [c] at this;cases this
theorem zgt (h:Lost d start goal L):zgF d start goal L=[]∧lostB d start goal L=true:=by
 constructor
 ·unfold zgF;rw [@dif_neg _ (Classical.propDecidable _)];rintro ⟨v,a,⟨x,b,c⟩,_⟩;have:=h v a x b;rw [c] at this;cases this
 ·exact @decide_eq_true _ (Classical.propDecidable _) h
theorem zP.first {e:Ending} {w':World}(h:zP w d start goal L e w')(h6:∀ l∈L,l<6):e=.returned (.tuple #[.string (wstr (zgF d start goal L)),.bool (!lostB d start goal L)])∧Ext w w':=by
 obtain⟨c,⟨v,rfl,hF⟩|⟨rfl,f⟩⟩:=h
 ·obtain⟨a,b⟩:=zfr h6 hF;rw [a,b];exact⟨rfl,c⟩
 ·obtain⟨a,b⟩:=zgt f;rw [a,b];exact⟨rfl,c⟩
end
noncomputable def vioW (ss:List Sys) (a p:Aut):ByteArray:=wstr (zgF (zca ss a p) [0] (zbJ a p) (letters (zB ss|||a.al.toNat) 6))
noncomputable def zje (ss:List Sys) (a p:Aut):Bool:=!lostB (zca ss a p) [0] (zbJ a p) (letters (zB ss|||a.al.toNat) 6)
theorem zco (a:Nat):∀ l∈letters a 6,l<6:=fun _ hl=>(zD.1 hl).1
theorem brkD_free (ss:List Sys) (p:Aut):zca ss free p=pnx (zbl ss [p]):=by
 rw [zdl]
 funext x l
 exact pnx_free ss p x l
theorem brkG_free (p:Aut) (x:Nat):zbJ free p x=!zct p (x % p.next.length):=by
 unfold zbJ;rw [show free.next.length=1 from rfl,Nat.mod_one];rfl
theorem sl_one {s:Sys}(hb:Blk w g 38 #[s.al,s.st,.slice B n c])(h:zV w lo hi B n s):∃ lo hi,zdG w lo hi (some ⟨g,0,none⟩) 1 [s]:=by
 refine⟨0,hi+g+1,rfl,[.int .i64 s.al,.int .i64 s.st,.slice B n c],⟨rfl,oM,fun _=>⟨_,rfl,eC _,by dsimp only;omega,fun j u hu=>?_⟩⟩,fun k t ht=>?_⟩
 ·rw [zT,eO,hb.cell];simpa using hu
 ·cases k with
  |zero =>
   simp at ht;subst ht;exact⟨B,n,c,rfl,rfl,rfl,h.1,h.2.more (eC _) oM⟩
  |succ k=>simp at ht
theorem al_one (hb:Blk w g 27 #[a.al,.slice B n c,.slice B' n' c'])(h:zF w lo hi B n B' n' a):∃ lo hi,ALAt w lo hi (some ⟨g,0,none⟩) 1 [a]:=by
 refine⟨0,hi+g+1,rfl,[.int .i64 a.al,.slice B n c,.slice B' n' c'],⟨rfl,oM,fun _=>⟨_,rfl,eC _,by dsimp only;omega,fun j u hu=>?_⟩⟩,fun k t ht=>?_⟩
 ·rw [zT,eO,hb.cell];simpa using hu
 ·cases k with
  |zero =>
   simp at ht;subst ht;exact⟨B,n,c,B',n',c',rfl,rfl,rfl,h.more (eC _) oM⟩
  |succ k=>simp at ht
theorem al_two {m d m' d':Nat}  (hb:Blk w g 27 #[a.al,.slice B n c,.slice B' n' c',p.al,.slice C m d,.slice C' m' d'])(h:zF w lo hi B n B' n' a)(h':zF w lo2 hi2 C m C' m' p):∃ lo hi,ALAt w lo hi (some ⟨g,0,none⟩) 2 [a,p]:=by
 refine⟨0,hi+hi2+g+1,rfl,[.int .i64 a.al,.slice B n c,.slice B' n' c',.int .i64 p.al,.slice C m d,.slice C' m' d'],⟨rfl,oM,fun _=>⟨_,rfl,eC _,by dsimp only;omega,fun j u hu=>?_⟩⟩,fun k t ht=>?_⟩
 ·rw [zT,eO,hb.cell];simpa using hu
 ·match k with
  |0 =>
   simp at ht;subst ht;exact⟨B,n,c,B',n',c',rfl,rfl,rfl,h.more (eC _) oM⟩
  |1 =>
   simp at ht;subst ht;exact⟨C,m,d,C',m',d',rfl,rfl,rfl,h'.more (eC _) oM⟩
  |k+2=>simp at ht
theorem zeros_row {base:Nat}(h:w.ownsRow base 3 1 (.slice (some g) n n) n (zac (eQ n 0))):Lst zbq w base w.heap.size (some ⟨g,0,none⟩) (eQ n 0):=by
 have a:=Lst.ai (xs:=eQ n 0) (W:=w) (base:=base) (c:=n) (A:=some ⟨g,0,none⟩) (by rw [List.length_replicate];exact h);exact a
theorem zeros_blk {cs:Array Value}(h:Blk w g 3 cs)(hc:cs.toList=zac (eQ n 0))(hn:n<=100):Lst zbq w g (g+1) (some ⟨g,0,none⟩) (eQ n 0):=by
 refine Lst.az ⟨by simp [zac],by simp;omega,fun _=>⟨_,rfl,dI _,sM,fun j u hu=>?_⟩⟩;rw [zT,eO,h.cell];rw [← hc] at hu;simpa using hu
theorem zao (h:zy ss=true):(1<=ss.length∧ss.length<=3)∧∀ s∈ss,zk s=true:=by
 unfold zy at h;simp only [eD,decide_eq_true_eq,fH] at h;exact⟨⟨h.1,h.2.1⟩,h.2.2⟩
theorem zkb (h:∀ s∈ss,zk s=true):zB ss<=63:=by
 have:∀ n,zB (ss.take n)<=63:=by
  intro n
  induction n with
  |zero=>simp [zB]
  |succ n ih =>
   rcases Nat.lt_or_ge n ss.length with a|a
   ·rw [zcs (dH a)];have:=zG (h _ (gI a));have:=e7 (n:=6) (x:=zB (ss.take n)) (y:=ss[n].al.toNat) oM oM;omega
   ·rw [eF oM];rw [eF a] at ih;exact ih
 have b:=this ss.length;rwa [fB] at b
theorem first_under (h:zfD w PA pn AA 2 ss [a,p])(hap:zy ss=true)(hv:zj a=true)(hp:zj p=true)(hS:Lst zbq w lo hi SA (eQ (pn+2) 0))(hL:L=zB ss|||a.al.toNat) :
  Calls Tryz.prog 140 #[.agg #[.slice PA pn pc,.slice AA 2 ac,.slice SA (pn+2) sc,L,(2:Int),G]] w fun e w'=>e=.returned (.tuple #[.string (vioW ss a p),.bool (zje ss a p)])∧Ext w w':=by
 obtain⟨⟨D,q⟩,j⟩:=zao hap;have d:pn=ss.length:=by obtain⟨_,_,B⟩:=h.sys;exact B.1
 have o:zdZ ss [a,p]:=⟨j,fun b hb=>by simp at hb;rcases hb with rfl|rfl<;>assumption,q,sM⟩
 have H:=zkb j;have C:=(zl hv).1;have i:L<64:=by
  rw [hL];exact e7 (n:=6) oM oM
 obtain⟨_,⟨r,_⟩,t,_⟩:=zl hv;obtain⟨_,⟨E,_⟩,F,_⟩:=zl hp;have f:szs ss [a,p]=ss.map (fun s=>s.st.toNat)++[a.next.length,p.next.length]:=rfl;have g:(szs ss [a,p]).length=pn+2:=by rw [f];simp [d]
 have key:=zeu (pc:=pc) (ac:=ac) (sc:=sc) (K:=2) (G:=G) (goal:=zbJ a p) h o hS g i (fun W hW x A l hh c mv hx hl=>by
  have y:(szs ss [a,p])[pn]?=some a.next.length:=by rw [f,eN (by simp [d])];simp [d]
  have z:(szs ss [a,p])[pn+1]?=some p.next.length:=by rw [f,eN (by simp [d])];simp [d]
  have u:(szs ss [a,p]).drop (pn+1)=[p.next.length]:=by
   rw [f,List.drop_append,gW (by simp [d])];simp [d]
  have v:(szs ss [a,p]).drop (pn+1+1)=[]:=gW (by rw [g];omega);have k:=zju (x:=x) y;have m:=zju (x:=x) z;rw [u] at k;rw [v] at m;simp only [zav,Nat.mul_one,Nat.div_one] at k m;exact zjW (h.ext hW) hl (by rw [zdK,g]) k (by rw [t];exact iQ _ r) m (by rw [F];exact iQ _ E))
 refine key.mono fun e w' hr=>?_;have:=hr.first (zco L)
 rw [← zdl,hL] at this;exact this
theorem ziN (h:zfD w PA pn AA 1 ss [p])(hap:zy ss=true)(hp:zj p=true)(hS:Lst zbq w lo hi SA (eQ (pn+1) 0))(hL:L=zB ss) :
  Calls Tryz.prog 140 #[.agg #[.slice PA pn pc,.slice AA 1 ac,.slice SA (pn+1) sc,L,(3:Int),G]] w fun e w'=>e=.returned (.tuple #[.string (vioW ss free p),.bool (zje ss free p)])∧Ext w w':=by
 obtain⟨⟨q,k⟩,f⟩:=zao hap;have d:pn=ss.length:=by obtain⟨_,_,o⟩:=h.sys;exact o.1
 have j:zdZ ss [p]:=⟨f,fun b hb=>by simp at hb;subst hb;assumption,k,sM⟩;have u:=zkb f;obtain⟨_,⟨r,_⟩,t,_⟩:=zl hp;have g:szs ss [p]=ss.map (fun s=>s.st.toNat)++[p.next.length]:=rfl;have a:(szs ss [p]).length=pn+1:=by rw [g];simp [d]
 have key:=zeu (pc:=pc) (ac:=ac) (sc:=sc) (K:=3) (G:=G) (goal:=zbJ free p) h j hS a (show L<64 by omega) (fun W hW x A l hh c mv hx hl=>by
  have n:(szs ss [p])[pn]?=some p.next.length:=by rw [g,eN (by simp [d])];simp [d]
  have m:(szs ss [p]).drop (pn+1)=[]:=gW (by rw [a];omega);have i:=zju (x:=x) n;rw [m] at i;simp only [zav,Nat.div_one] at i;rw [brkG_free];exact zjX (h.ext hW) hl (by rw [zdK,a]) i (by rw [t];exact iQ _ r))
 refine key.mono fun e w' hr=>?_;have:=hr.first (zco L)
 rw [← brkD_free,hL] at this;unfold vioW zje;rw [show free.al.toNat=0 from rfl,Nat.or_zero];exact this
def zcL (s:Sys) (a p:Aut):Bool:=zk s&&(zj a&&zj p)
noncomputable def zbD (s:Sys) (a p:Aut):Bool:=zcL s a p&&zje [s] a p
noncomputable def zaG (s:Sys) (a p:Aut):ByteArray:=if zcL s a p=true then vioW [s] a p else ByteArray.empty
noncomputable def zcK (s:Sys) (a p:Aut):Bool:=zcL s a p&&!zje [s] a p
def zbi (ss:List Sys) (p:Aut):Bool:=zy ss&&zj p
noncomputable def zbf (ss:List Sys) (p:Aut):Bool:=zbi ss p&&zje ss free p
noncomputable def zR (ss:List Sys) (p:Aut):ByteArray:=if zbi ss p=true then vioW ss free p else ByteArray.empty
noncomputable def zcf (ss:List Sys) (p:Aut):Bool:=zbi ss p&&!zje ss free p
theorem underB_keeps (s:Sys) (a p:Aut):zcK s a p=(zcL s a p&&!zbD s a p):=by unfold zcK zbD;cases zcL s a p<;>simp
theorem zfp (ss:List Sys) (p:Aut):zcf ss p=(zbi ss p&&!zbf ss p):=by unfold zcf zbf;cases zbi ss p<;>simp
section
variable {lo hi n c:Nat} {A:Option Addr} {s:Sys} {lo1 hi1 m1 d1 m1' d1':Nat} {B B':Option Addr} {a:Aut} {lo2 hi2 m2 d2 m2' d2':Nat} {C C':Option Addr} {p:Aut} {w:World}
theorem spec_l8Three (h:zV w lo hi A n s)(ha:zF w lo1 hi1 B m1 B' m1' a)(hp:zF w lo2 hi2 C m2 C' m2' p) :
  Calls Tryz.prog 139 #[.agg #[s.al,s.st,.slice A n c],.agg #[a.al,.slice B m1 d1,.slice B' m1' d1'],.agg #[p.al,.slice C m2 d2,.slice C' m2' d2']] w fun e w'=>e=.returned (.bool (zcL s a p))∧Ext w w':=by
 have r:=za (fun W (hW:Ext w W)=>zat (c:=c) (h.ext hW));have o:=za (fun W (hW:Ext w W)=>zQ _ _ _ _ d1 _ _ d1' _ _ (ha.ext hW));have q:=za (fun W (hW:Ext w W)=>zQ _ _ _ _ d2 _ _ d2' _ _ (hp.ext hW));have x:=za (show zcL s a p=(zk s&&(zj a&&zj p)) from rfl);clear h ha hp;have f:Ext w (((w.alloc (.cells #[s.al,s.st,.slice A n c] 38)).alloc (.cells #[a.al,.slice B m1 d1,.slice B' m1' d1'] 27)).alloc (.cells #[p.al,.slice C m2 d2,.slice C' m2' d2'] 27)):=(((dE w).alloc _).alloc _).alloc _;obtain⟨t,u,v⟩:=zU (dE (((w.alloc (.cells #[s.al,s.st,.slice A n c] 38)).alloc (.cells #[a.al,.slice B m1 d1,.slice B' m1' d1'] 27)).alloc (.cells #[p.al,.slice C m2 d2,.slice C' m2' d2'] 27)));cases h1:zk s<;>cases h2:zj a<;>cases h3:zj p
 all_goals
  have k:=za h1;have l:=za h2;have m:=za h3;clear h1 h2 h3
  go_enter Tryz.func139,Tryz.ntmps139
  go_upto_region 1 with fail
  generalize ((w.alloc _).alloc _).alloc _=E at *;have y:=t.cell;go_wp2_with (first
   |(go_at_call 185;with_reducible refine (r.out _ f).mono ?_;rw [k.out];rintro e F ⟨rfl,hx2⟩;have b:=f.trans hx2;have z:=(u.ext hx2).cell)
   |(go_at_call 79;with_reducible refine (o.out _ b).mono ?_;rw [l.out];rintro e G ⟨rfl,g⟩;have d:=b.trans g;have D:=(v.ext (hx2.trans g)).cell)
   |(go_at_call 79;with_reducible refine (q.out _ d).mono ?_;rw [m.out];rintro e H ⟨rfl,j⟩;have i:=d.trans j))
  go_ret;exact⟨zu (by rw [x.out,k.out,l.out,m.out];rfl),by first|exact i|exact d|exact b⟩
theorem zdg (h:zV w lo hi A n s)(ha:zF w lo1 hi1 B m1 B' m1' a)(hp:zF w lo2 hi2 C m2 C' m2' p) :
  Calls Tryz.prog 59 #[.agg #[s.al,s.st,.slice A n c],.agg #[a.al,.slice B m1 d1,.slice B' m1' d1'],.agg #[p.al,.slice C m2 d2,.slice C' m2' d2']] w fun e w'=>e=.returned (.tuple #[.string (zaG s a p),.bool (zbD s a p)])∧Ext w w':=by
 have V:=za (fun W (hW:Ext w W)=>spec_l8Three (c:=c) (d1:=d1) (d1':=d1') (d2:=d2) (d2':=d2') (h.ext hW) (ha.ext hW) (hp.ext hW));have HS:=za (fun W (hW:Ext w W)=>h.ext hW);have HA:=za (fun W (hW:Ext w W)=>ha.ext hW);have HP:=za (fun W (hW:Ext w W)=>hp.ext hW);clear h ha hp;have d:Ext w (((w.alloc (.cells #[s.al,s.st,.slice A n c] 38)).alloc (.cells #[a.al,.slice B m1 d1,.slice B' m1' d1'] 27)).alloc (.cells #[p.al,.slice C m2 d2,.slice C' m2' d2'] 27)):=(((dE w).alloc _).alloc _).alloc _;obtain⟨g,l,q⟩:=zU (dE (((w.alloc (.cells #[s.al,s.st,.slice A n c] 38)).alloc (.cells #[a.al,.slice B m1 d1,.slice B' m1' d1'] 27)).alloc (.cells #[p.al,.slice C m2 d2,.slice C' m2' d2'] 27)));cases hT:zcL s a p
 ·have H:=za hT;have E:=za (show zaG s a p=ByteArray.empty∧zbD s a p=false by unfold zaG zbD;rw [hT];exact⟨rfl,rfl⟩);clear hT
  go_enter Tryz.func59,Tryz.ntmps59
  go_upto_region 1 with fail
  generalize ((w.alloc _).alloc _).alloc _=w1 at *;have X:=g.cell;have Y:=l.cell;have Z:=q.cell;go_wp2_with (go_at_call 139;refine (V.out _ d).mono ?_;rw [H.out];rintro e b ⟨rfl,hx2⟩)
  go_ret2;exact⟨by rw [E.out.1,E.out.2];rfl,d.trans hx2⟩
 ·have hv:zk s=true∧zj a=true∧zj p=true:=by
   unfold zcL at hT;simp only [eD] at hT;exact hT
  obtain⟨T,U,v3⟩:=hv;have H:=za hT;have E:=za (show zaG s a p=vioW [s] a p∧zbD s a p=zje [s] a p by unfold zaG zbD;rw [hT];exact⟨rfl,sM⟩);have L:=(zl U).1;have R:=zG T;obtain⟨G,o⟩:∃ al:Nat,Hid (s.al=al):=⟨s.al.toNat,by unfold Hid;omega⟩;obtain⟨al,m⟩:∃ al:Nat,Hid (a.al=al):=⟨a.al.toNat,by unfold Hid;omega⟩;have ag:G<=63:=oH o.out;have af:al<=63:=oH m.out;have ap:bits .or .i64 (G:Int) (al:Int)=((G|||al:Nat):Int):=zbb tM tM;have J:=za (show (G|||al)=zB [s]|||a.al.toNat by
   have h1:=o.out;have h2:=m.out;rw [h2,Int.toNat_natCast];simp [zB,h1])
  have M:=za (show zy [s]=true by simp [zy,T]);have V2:=za U;have V3:=za v3;clear hT L R T U v3
  go_enter Tryz.func59,Tryz.ntmps59
  go_upto_region 1 with fail
  generalize ((w.alloc _).alloc _).alloc _=w1 at *;have X:=g.cell;have Y:=l.cell;have Z:=q.cell;go_upto_region 3 with (go_at_call 139;refine (V.out _ d).mono ?_;rw [H.out];rintro e b ⟨rfl,hx2⟩)
  clear X Y Z;replace g:=g.ext hx2;replace l:=l.ext hx2;replace q:=q.ext hx2;have F:=d.trans hx2;clear d hx2;have e1:=eX b 38 #[s.al,s.st,.slice A n c];have r:=(dE b).alloc (.cells #[s.al,s.st,.slice A n c] 38);have I:=g;have v:=l.ext r;have x:=q.ext r;have e2:=eX (b.alloc (.cells #[s.al,s.st,.slice A n c] 38)) 27 #[a.al,.slice B m1 d1,.slice B' m1' d1',p.al,.slice C m2 d2,.slice C' m2' d2'];have D:=(dE (b.alloc (.cells #[s.al,s.st,.slice A n c] 38))).alloc (.cells #[a.al,.slice B m1 d1,.slice B' m1' d1',p.al,.slice C m2 d2,.slice C' m2' d2'] 27);have e3:=eX ((b.alloc (.cells #[s.al,s.st,.slice A n c] 38)).alloc (.cells #[a.al,.slice B m1 d1,.slice B' m1' d1',p.al,.slice C m2 d2,.slice C' m2' d2'] 27)) 3 #[(0:Int),(0:Int),(0:Int)];have t:=(dE ((b.alloc (.cells #[s.al,s.st,.slice A n c] 38)).alloc (.cells #[a.al,.slice B m1 d1,.slice B' m1' d1',p.al,.slice C m2 d2,.slice C' m2' d2'] 27))).alloc (.cells #[(0:Int),(0:Int),(0:Int)] 3);have i:=g.ext (r.trans (D.trans t));have j:=l.ext (r.trans (D.trans t));have k1:=g.cell;have k2:=v.cell;have k3:=x.cell;have k4:=(i.cell 0).trans (show #[Value.int .i64 s.al,.int .i64 s.st,.slice A n c][0]?=some (Value.int .i64 (G:Nat)) by rw [o.out];rfl);have k5:=(j.cell 0).trans (show #[Value.int .i64 a.al,.slice B m1 d1,.slice B' m1' d1'][0]?=some (Value.int .i64 (al:Nat)) by rw [m.out];rfl);have f:=F.trans (r.trans (D.trans t));have k:∃ lo hi,zfD (((b.alloc (.cells #[s.al,s.st,.slice A n c] 38)).alloc (.cells #[a.al,.slice B m1 d1,.slice B' m1' d1',p.al,.slice C m2 d2,.slice C' m2' d2'] 27)).alloc (.cells #[(0:Int),(0:Int),(0:Int)] 3)) (some ⟨b.heap.size,0,none⟩) 1 (some ⟨b.heap.size+1,0,none⟩) 2 [s] [a,p]∧Lst zbq (((b.alloc (.cells #[s.al,s.st,.slice A n c] 38)).alloc (.cells #[a.al,.slice B m1 d1,.slice B' m1' d1',p.al,.slice C m2 d2,.slice C' m2' d2'] 27)).alloc (.cells #[(0:Int),(0:Int),(0:Int)] 3)) lo hi (some ⟨b.heap.size+1+1,0,none⟩) (eQ 3 0):=by
   have y:=e2.ext t;have z:=e3;simp only [World.size_alloc] at y z;exact⟨_,_,⟨sl_one (e1.ext (D.trans t)) (HS.out _ f),al_two y (HA.out _ f) (HP.out _ f)⟩,zeros_blk (n:=3) z rfl oM⟩
  have u:=za k;clear k e1 e2 e3 r D t g l q I v x i j F;go_wp2_with (go_at_call 140;obtain⟨l1,h1,O,Q⟩:=u.out;refine (first_under (pn:=1) O M.out V2.out V3.out Q J.out).mono (mQ fun w4 S=>?_))
  go_ret2;exact⟨by rw [E.out.1,E.out.2];rfl,f.trans S⟩
end
theorem wp_make {P:Program} (w:World) {o:Oper} {a:Act} {K:Act->World->Prop} {Q:Exit->Act->World->Prop} (l c:Operand) (t:TypeId)(ho:o.op=.makeSlice t l c)
  (e:TypeId) (z:Value) (size bytes:Nat) (ht:P.underlying t=some (.slice e)) (hi:(P.info? e).map (fun i=>(i.zero,i.size,i.bytes))=some (some z,size,bytes))
  (kl kc:IntKind) (n:Nat) (hl:a.eval l=.int kl (n:Int)) (hc:a.eval c=.int kc (n:Int)) (hbytes:n*bytes<=140737488355328) (h63:n<=maxLen)
  (h:∀ w',w'.ownsRow w.heap.size e size (.slice (some w.heap.size) n n) n (madeCells z.cells (n*size)).toList->Ext w w'->K (a.put o.dst (.slice (some w.heap.size) n n)) w') :
  o.wp P a w K Q:=by
 obtain⟨i,d,f,g,j⟩:=info_parts hi;obtain⟨w',b,k,m⟩:=run_make_full (P:=P) w w.heap.size t e i z size ht d f g kl kc n (by rw [j,Nat.mul_comm];omega) h63 (dI _);unfold Oper.wp;simp [execOp,ho,hl,hc,b,Result.andThen];exact h w' k ((dE _).grown m sM)
section
variable {lo hi n c:Nat} {A:Option Addr} {s:Sys} {lo1 hi1 m1 d1 m1' d1':Nat} {B B':Option Addr} {a:Aut} {lo2 hi2 m2 d2 m2' d2':Nat} {C C':Option Addr} {p:Aut} {w:World}
theorem madeZ (n:Nat):(madeCells (Value.int .i64 0).cells (n*1)).toList=zac (eQ n 0):=by
 simp [Value.cells,toList_madeCells_one,zac]
variable {k:Nat} {ss:List Sys}
theorem zbP (h:zdG w lo hi A k ss)(hp:zF w lo2 hi2 C m2 C' m2' p) :
  Calls Tryz.prog 150 #[.slice A k c,.agg #[p.al,.slice C m2 d2,.slice C' m2' d2']] w fun e w'=>e=.returned (.tuple #[.string (zR ss p),.bool (zbf ss p)])∧Ext w w':=by
 have o:=za (fun W (hW:Ext w W)=>h.ext hW);have v:=za (fun W (hW:Ext w W)=>hp.ext hW);have O:=h.len;have z:=za h.1;clear h hp;have b:Ext w (w.alloc (.cells #[p.al,.slice C m2 d2,.slice C' m2' d2'] 27)):=(dE w).alloc _;have x:=eX w 27 #[p.al,.slice C m2 d2,.slice C' m2' d2'];cases hA:zy ss
 ·have f:=za (show zR ss p=ByteArray.empty∧zbf ss p=false by unfold zR zbf zbi;rw [hA];exact⟨rfl,rfl⟩);have g:=za (show zaZ ss = -1 by unfold zaZ;rw [hA];rfl);clear hA
  go_enter Tryz.func150,Tryz.ntmps150
  go_upto_region 1 with fail
  generalize w.alloc _=I at *;go_wp2_with (go_at_call 206;refine (zaC (o.out _ b)).mono ?_;rw [g.out];rintro e J ⟨rfl,hx2⟩)
  go_ret2;exact⟨by rw [f.out.1,f.out.2];rfl,b.trans hx2⟩
 ·have g:=za (show zaZ ss=(zB ss:Int) by unfold zaZ;rw [hA];rfl);cases hV:zj p
  ·have f:=za (show zR ss p=ByteArray.empty∧zbf ss p=false by unfold zR zbf zbi;rw [hA,hV];exact⟨rfl,rfl⟩);have q:=za hV;clear hA hV
   go_enter Tryz.func150,Tryz.ntmps150
   go_upto_region 1 with fail
   generalize w.alloc _=I at *;go_wp2_with (first
    |(go_at_call 206;refine (zaC (o.out _ b)).mono ?_;rw [g.out];rintro e J ⟨rfl,hx2⟩;have d:=b.trans hx2;have G:=(x.ext hx2).cell)
    |(go_at_call 79;refine (zQ _ _ _ _ _ _ _ _ _ _ (v.out _ d)).mono ?_;rw [q.out];rintro e n ⟨rfl,j⟩;have i:=d.trans j))
   go_ret2;exact⟨by rw [f.out.1,f.out.2];rfl,i⟩
  ·have f:=za (show zR ss p=vioW ss free p∧zbf ss p=zje ss free p by unfold zR zbf zbi;rw [hA,hV];exact⟨rfl,sM⟩);obtain⟨⟨_,t⟩,u⟩:=zao hA;have H:k<=3:=by rw [z.out];exact t
   have V:=zkb u;have q:=za hV;have E:=za hA;clear hA hV u t;generalize hUe:zB ss=U at *;have F:=za hUe;clear hUe
   go_enter Tryz.func150,Tryz.ntmps150
   go_upto_region 1 with fail
   generalize w.alloc _=I at *;go_upto_region 4 with (first
    |(go_at_call 206;refine (zaC (o.out _ b)).mono ?_;rw [g.out];rintro e J ⟨rfl,hx2⟩;have d:=b.trans hx2;have G:=(x.ext hx2).cell)
    |(go_at_call 79;refine (zQ _ _ _ _ _ _ _ _ _ _ (v.out _ d)).mono ?_;rw [q.out];rintro e n ⟨rfl,j⟩;have i:=d.trans j))
   have r:=x.ext (hx2.trans j);have S:=r.cells;have B:=dE n;have M:IntKind.i64.wrap ((k:Int)+1)=((k+1:Nat):Int):=by rw [← Int.natCast_succ];exact zha (k+1) oM
   clear G x r;refine uR (fun X=>Ext n X) [9] (zw.app [0,1,3,4,5,7] (zw.two 2 (zw.of [6,8,9,10,11,12,13]) 6 (zw.of [2,8,9,10,11,12,13]))) ?_;refine uQ ?_;have hx0:Ext n n.drew:=B.drew;generalize n.drew=y at *;refine zm (fun K hK=>?_) (fun K hK=>?_)
   ·go_simp;replace hx0:=hx0.alloc (.cells #[p.al,.slice C m2 d2,.slice C' m2' d2'] 27);refine hK.out _ _ hx0 ?_;generalize U0:y.alloc _=Q at *;have s:=eS U0;clear U0;generalize y.heap.size=L at *;refine pT ?_;refine ze (fun K hK=>?_);refine wp_make Q _ _ 110 rfl 3 _ 1 8 Tryz.underlying110 zae .i64 .i64 (k+1) ?_ ?_ oM lM ?_
    ·go_simp
    ·go_simp
    intro w5 zkr hx5;rw [madeZ] at zkr;replace hx0:=hx0.trans hx5;replace s:=s.ext hx5;refine hK.out _ _ hx0 ?_;refine pT ?_;refine uQ ?_;refine zb fun K hK=>?_;go_simp;have a:=i.trans hx0;refine (ziN (pn:=k) ⟨⟨_,_,o.out _ a⟩,al_one s (v.out _ a)⟩ E.out q.out (zeros_row zkr) F.out.symm).mono (mQ fun R l=>?_);have m:=a.trans l;refine hK.out _ _ ?_;refine pT ?_;refine uQ ?_;refine zg ?_;go_wp2_with fail
    go_ret2;exact⟨by rw [f.out.1,f.out.2];rfl,m⟩
   ·refine wp_make y _ _ 110 rfl 3 _ 1 8 Tryz.underlying110 zae .i64 .i64 (k+1) ?_ ?_ oM lM ?_
    ·go_simp
    ·go_simp
    intro w5 zkr hx5;rw [madeZ] at zkr;replace hx0:=hx0.trans hx5;refine hK.out _ _ hx0 ?_;generalize y.heap.size=T at *;refine pT ?_;refine ze fun K hK=>?_;go_simp;have l:=(dE w5).alloc (.cells #[p.al,.slice C m2 d2,.slice C' m2' d2'] 27);replace hx0:=hx0.trans l;replace zkr:=zh zkr l;refine hK.out _ _ hx0 ?_;generalize U0:w5.alloc _=R at *;have s:=eS U0;clear U0;generalize w5.heap.size=L at *;refine pT ?_;refine uQ ?_;refine zb fun K hK=>?_;go_simp;have a:=i.trans hx0;refine (ziN (pn:=k) ⟨⟨_,_,o.out _ a⟩,al_one s (v.out _ a)⟩ E.out q.out (zeros_row zkr) F.out.symm).mono (mQ fun Y D=>?_);have m:=a.trans D;refine hK.out _ _ ?_;refine pT ?_;refine uQ ?_;refine zg ?_;go_wp2_with fail
    go_ret2;exact⟨by rw [f.out.1,f.out.2];rfl,m⟩
end
end Go.Proofs.YtckbjnndaaoddaaGreatDoor
