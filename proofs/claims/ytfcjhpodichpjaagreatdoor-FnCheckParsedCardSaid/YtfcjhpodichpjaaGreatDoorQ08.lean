/- impl.firstBr -/
import Derived.Test.YtfcjhpodichpjaaGreatDoorQ07
import Derived.Test.YtfcjhpodichpjaaGreatDoorQ04
set_option maxHeartbeats 8000000
set_option maxRecDepth 100000
namespace Go.Proofs.YtfcjhpodichpjaaGreatDoor
open Go Go.RowKit
open Blk renaming new->dT
open Bool renaming and_eq_true->dF
open Ext renaming bl_->dW,refl->cW
open Int renaming natCast_mul->fC
open List renaming all_eq_true->eG,drop_of_length_le->fU,getElem?_append_right->dP,getElem?_eq_getElem->dC,getElem_mem->fO,length_map->dO,mem_of_getElem?->cX,replicate->dN,take_length->eC,take_of_length_le->dG
open Nat renaming le_refl->cY,le_trans->dJ,lt_or_ge->eT,mod_lt->fX,ne_of_lt->eL,or_lt_two_pow->eJ,pow_le_pow_right->dV,zero_add->dS,zero_le->dD
variable {A AA B B' C C' PA SA:Option Addr} {G:Int} {L M R ac c c' g hi hi2 k lo lo2 n n' pc pn q sc:Nat} {a p:Aut} {s:Sys} {ss:List Sys} {v:List Nat} {w w':World}
theorem yQ08d1 {P:Prop}(h:P:=by
 have Kh10:=h10.cell 0;have Zh10:=h10.frozen 0;refine zb fun K hK=>?_;go_simp;have hx2:=hx0.frm (Frm.setCell w23 g10 0 (.slice UA a.next.length uc)) (fun k hk e=>oH hGh10);have hA2:=hA.set h10 dM (.slice UA a.next.length uc);have hP2:=hP.set h10 dM (.slice UA a.next.length uc);have h102:Blk (w23.setCell g10 (.slice UA a.next.length uc)) g10 168 #[.slice UA a.next.length uc]:=by simpa using h10.ab 0 (.slice UA a.next.length uc)
 have h112:=h11.far (p:=⟨g10,0,none⟩) (by first|exact hne|exact hne.symm) (.slice UA a.next.length uc)
 refine hK.out _ _ ?_;refine pT ?_;clear hA hP h10 h11 Kh10 Zh10 hx0;generalize w23.setCell g10 (.slice UA a.next.length uc)=w24 at *;have hA:=hA2;have hP:=hP2;have h10:=h102;have h11:=h112;have hx0:=hx2;clear hA2 hP2 h102 h112 hx2;have Kh11:=h11.cell 0;have Zh11:=h11.frozen 0;refine zb fun K hK=>?_;go_simp;have hx2:=hx0.frm (Frm.setCell w24 g11 0 (.slice RA p.next.length rc)) (fun k hk e=>oH hGh11);have hA2:=hA.set h11 dM (.slice RA p.next.length rc);have hP2:=hP.set h11 dM (.slice RA p.next.length rc);have h112:Blk (w24.setCell g11 (.slice RA p.next.length rc)) g11 168 #[.slice RA p.next.length rc]:=by simpa using h11.ab 0 (.slice RA p.next.length rc)
 have h102:=h10.far (p:=⟨g11,0,none⟩) (by first|exact hne|exact hne.symm) (.slice RA p.next.length rc)
 refine hK.out _ _ ?_;refine pT ?_;clear hA hP h10 h11 Kh11 Zh11 hx0;generalize w24.setCell g11 (.slice RA p.next.length rc)=w25 at *;have hA:=hA2;have hP:=hP2;have h10:=h102;have h11:=h112;have hx0:=hx2;clear hA2 hP2 h102 h112 hx2;refine ze ?_;go_wp2_with fail
 go_meet;exact⟨g10,g11,UA,RA,uc,rc,rfl,rfl,hx0,h10,h11,hA,hP⟩
 ):P:=h
theorem yQ08c1 {P:Prop}(h:P:=by
 refine zb fun K hK=>?_;go_simp;refine (hTP.out _ hx0).mono ?_;rintro e w23 ⟨RA,rc,rfl,hP,hx1⟩;replace hx0:=hx0.trans hx1;replace h10:=h10.ext hx1;replace h11:=h11.ext hx1;replace hA:=hA.ext hx1;clear hx1;refine hK.out _ _ ?_;refine pT ?_;exact yQ08d1
 ):P:=h
theorem yQ08b1 {P:Prop}(h:P:=by
 refine zd fun K hK=>?_;go_simp;refine (hTA.out _ hx0).mono ?_;rintro e w22 ⟨UA,uc,rfl,hA,hx1⟩;replace hx0:=hx0.trans hx1;replace h10:=h10.ext hx1;replace h11:=h11.ext hx1;clear hx1;refine hK.out _ _ hx0 ?_;refine pT ?_;exact yQ08c1
 ):P:=h
theorem yQ08c2 {P:Prop}(h:P:=by
 exact yQ08d1
 ):P:=h
theorem yQ08b2 {P:Prop}(h:P:=by
 refine zd fun K hK=>?_;go_simp;have hne:=Nat.ne_of_lt h11.lt;have hGh10:=hx0.size;have hx1:=(Ext.refl w22).alloc (.cells #[()] 168);replace hx0:=hx0.trans hx1;replace h11:=h11.ext hx1;replace hA:=hA.ext hx1;replace hP:=hP.ext hx1;clear hx1;refine hK.out _ _ hx0 ?_;refine pT ?_;generalize U0:w22.alloc _=w23 at *;have h10:=Ext.bl_ U0;clear U0;generalize w22.heap.size=g10 at *;exact yQ08c2
 ):P:=h
theorem yQ08b4 {P:Prop}(h:P:=by
 exact yQ08c1
 ):P:=h
def zcF (a p:Aut) (x:Nat):Bool:=zdr a (x / p.next.length % a.next.length)&&!zdr p (x % p.next.length)
theorem yQ08a1 {P:Prop}(h:P:=by
 refine zm (fun K hK=>?_) (fun K hK=>?_)
 ·go_simp;refine (hTA.out _ hx0).mono ?_;rintro e w21 ⟨UA,uc,rfl,hA,hx1⟩;replace hx0:=hx0.trans hx1;replace h11:=h11.ext hx1;clear hx1;refine hK.out _ _ hx0 ?_;refine pT ?_;refine zm (fun K hK=>?_) (fun K hK=>?_)
  ·go_simp;refine (hTP.out _ hx0).mono ?_;rintro e w22 ⟨RA,rc,rfl,hP,hx1⟩;replace hx0:=hx0.trans hx1;replace h11:=h11.ext hx1;replace hA:=hA.ext hx1;clear hx1;refine hK.out _ _ hx0 ?_;refine pT ?_;exact yQ08b2
  ·go_simp;have hne:=Nat.ne_of_lt h11.lt;have hGh10:=hx0.size;have hx1:=(Ext.refl w21).alloc (.cells #[()] 168);replace hx0:=hx0.trans hx1;replace h11:=h11.ext hx1;replace hA:=hA.ext hx1;clear hx1;refine hK.out _ _ hx0 ?_;refine pT ?_;generalize U0:w21.alloc _=w22 at *;have h10:=Ext.bl_ U0;clear U0;generalize w21.heap.size=g10 at *;exact yQ08b4
 ·go_simp;have hne:=Nat.ne_of_lt h11.lt;have hGh10:=hx0.size;have hx1:=(Ext.refl w20).alloc (.cells #[()] 168);replace hx0:=hx0.trans hx1;replace h11:=h11.ext hx1;clear hx1;refine hK.out _ _ hx0 ?_;refine pT ?_;generalize U0:w20.alloc _=w21 at *;have h10:=Ext.bl_ U0;clear U0;generalize w20.heap.size=g10 at *;exact yQ08b1
 ):P:=h
theorem yQ08b3 {P:Prop}(h:P:=by
 refine zd fun K hK=>?_;go_simp;have hne:=Nat.ne_of_lt h10.lt;have hGh11:=hx0.size;have hx1:=(Ext.refl w22).alloc (.cells #[()] 168);replace hx0:=hx0.trans hx1;replace h10:=h10.ext hx1;replace hA:=hA.ext hx1;replace hP:=hP.ext hx1;clear hx1;refine hK.out _ _ hx0 ?_;refine pT ?_;generalize U0:w22.alloc _=w23 at *;have h11:=Ext.bl_ U0;clear U0;generalize w22.heap.size=g11 at *;exact yQ08c2
 ):P:=h
theorem yQ08a2 {P:Prop}(h:P:=by
 refine zm (fun K hK=>?_) (fun K hK=>?_)
 ·go_simp;refine (hTA.out _ hx0).mono ?_;rintro e w21 ⟨UA,uc,rfl,hA,hx1⟩;replace hx0:=hx0.trans hx1;replace h10:=h10.ext hx1;clear hx1;refine hK.out _ _ hx0 ?_;refine pT ?_;refine zm (fun K hK=>?_) (fun K hK=>?_)
  ·go_simp;refine (hTP.out _ hx0).mono ?_;rintro e w22 ⟨RA,rc,rfl,hP,hx1⟩;replace hx0:=hx0.trans hx1;replace h10:=h10.ext hx1;replace hA:=hA.ext hx1;clear hx1;refine hK.out _ _ hx0 ?_;refine pT ?_;exact yQ08b3
  ·go_simp;have hne:=Nat.ne_of_lt h10.lt;have hGh11:=hx0.size;have hx1:=(Ext.refl w21).alloc (.cells #[()] 168);replace hx0:=hx0.trans hx1;replace h10:=h10.ext hx1;replace hA:=hA.ext hx1;clear hx1;refine hK.out _ _ hx0 ?_;refine pT ?_;generalize U0:w21.alloc _=w22 at *;have h11:=Ext.bl_ U0;clear U0;generalize w21.heap.size=g11 at *;exact yQ08b4
 ·go_simp;have hne:=Nat.ne_of_lt h10.lt;have hGh11:=hx0.size;have hx1:=(Ext.refl w20).alloc (.cells #[()] 168);replace hx0:=hx0.trans hx1;replace h10:=h10.ext hx1;clear hx1;refine hK.out _ _ hx0 ?_;refine pT ?_;generalize U0:w20.alloc _=w21 at *;have h11:=Ext.bl_ U0;clear U0;generalize w20.heap.size=g11 at *;exact yQ08b1
 ):P:=h
theorem yQ08c3 {P:Prop}(h:P:=by
 refine zb fun K hK=>?_;go_simp;refine (key.out _ hx0 _ _ _ _ _ hI hIL).mono ?_;rintro e w23 ⟨hx1,hcase⟩;have hx2:=hw9.trans (hx0.trans hx1);rcases hcase with ⟨v,rfl,hF⟩|⟨rfl,hF⟩
 ·have hres:=za (show zO w (zbP ss a p) [0] (zcF a p) (letters (U|||al) 6) _ w23 from ⟨hx2,Or.inl ⟨v,rfl,hF⟩⟩);refine hK.out _ _ ?_;refine pT ?_;refine uQ ?_;refine ze ?_;go_wp2_with fail
  go_ret2;exact hres.out
 ·have hres:=za (show zO w (zbP ss a p) [0] (zcF a p) (letters (U|||al) 6) _ w23 from ⟨hx2,Or.inr ⟨rfl,hF⟩⟩);refine hK.out _ _ ?_;refine pT ?_;refine uQ ?_;refine ze ?_;go_wp2_with fail
  go_ret2;exact hres.out
 ):P:=h
theorem yQ08b6 {P:Prop}(h:P:=by
 exact yQ08c3
 ):P:=h
theorem yQ08a3 {P:Prop}(h:P:=by
 refine hK.out _ _ hx0 ?_;refine pT ?_;refine uQ ?_;refine zm (fun K hK=>?_) (fun K hK=>?_)
 ·go_simp;have hI:=zcz (x:=0) (Blk.new w20 3 #[.int .i64 ((0:Nat):Int)]);have hx1:=(Ext.refl w20).alloc (.cells #[.int .i64 ((0:Nat):Int)] 3);replace hx0:=hx0.trans hx1;clear hx1;refine hK.out _ _ hx0 ?_;refine pT ?_;generalize w20.alloc _=w21 at *;generalize w20.heap.size=g1 at *;refine zd fun K hK=>?_;go_simp;refine (hLT.out w21).mono ?_;rintro e w22 ⟨AL,cL,rfl,hownL,hx1⟩;have hIL:=zap.own hownL;clear hownL;replace hx0:=hx0.trans hx1;replace hI:=hI.ext hx1;clear hx1;refine hK.out _ _ hx0 ?_;refine pT ?_;exact yQ08b6
 ·go_simp;refine (hLT.out w20).mono ?_;rintro e w21 ⟨AL,cL,rfl,hownL,hx1⟩;have hIL:=zap.own hownL;clear hownL;replace hx0:=hx0.trans hx1;clear hx1;refine hK.out _ _ hx0 ?_;refine pT ?_;refine zd fun K hK=>?_;go_simp;have hI:=zcz (x:=0) (Blk.new w21 3 #[.int .i64 ((0:Nat):Int)]);have hx1:=(Ext.refl w21).alloc (.cells #[.int .i64 ((0:Nat):Int)] 3);replace hx0:=hx0.trans hx1;replace hIL:=hIL.ext hx1;clear hx1;refine hK.out _ _ hx0 ?_;refine pT ?_;generalize w21.alloc _=w22 at *;generalize w21.heap.size=g1 at *;exact yQ08b6
 ):P:=h
theorem yQ08a4 {P:Prop}(h:P:=by
 refine zd fun K hK=>?_;go_simp;refine hK.out _ _ hx0 ?_;refine pT ?_;refine uQ ?_;exact yQ08b1
 ):P:=h
theorem yQ08a5 {P:Prop}(h:P:=by
 exact yQ08b2
 ):P:=h
theorem yQ08a6 {P:Prop}(h:P:=by
 exact yQ08b3
 ):P:=h
theorem yQ08a7 {P:Prop}(h:P:=by
 exact yQ08b4
 ):P:=h
theorem yQ08a8 {P:Prop}(h:P:=by
 have Kh12:=h12.cell 0;have Zh12:=h12.frozen 0;refine zd fun K hK=>?_;go_simp;have hx2:=hx0.frm (Frm.setCell w21 g12 0 (.int .i64 (a.next.length:Nat))) (fun k hk e=>oH hGh12);have h122:Blk (w21.setCell g12 (.int .i64 (a.next.length:Nat))) g12 3 #[.int .i64 (a.next.length:Nat)]:=by simpa using h12.ab 0 (.int .i64 (a.next.length:Nat))
 have h132:=h13.far (p:=⟨g12,0,none⟩) (by first|exact hne|exact hne.symm) (.int .i64 (a.next.length:Nat))
 refine hK.out _ _ hx2 ?_;refine pT ?_;clear h12 h13 Kh12 Zh12 hx0;generalize w21.setCell g12 (.int .i64 (a.next.length:Nat))=w22 at *;have h12:=h122;have h13:=h132;have hx0:=hx2;clear h122 h132 hx2;have Kh13:=h13.cell 0;have Zh13:=h13.frozen 0;refine zb fun K hK=>?_;go_simp;have hx2:=hx0.frm (Frm.setCell w22 g13 0 (.int .i64 (p.next.length:Nat))) (fun k hk e=>oH hGh13);have h132:Blk (w22.setCell g13 (.int .i64 (p.next.length:Nat))) g13 3 #[.int .i64 (p.next.length:Nat)]:=by simpa using h13.ab 0 (.int .i64 (p.next.length:Nat))
 have h122:=h12.far (p:=⟨g13,0,none⟩) (by first|exact hne|exact hne.symm) (.int .i64 (p.next.length:Nat))
 refine hK.out _ _ ?_;refine pT ?_;clear h12 h13 Kh13 Zh13 hx0;generalize w22.setCell g13 (.int .i64 (p.next.length:Nat))=w23 at *;have h12:=h122;have h13:=h132;have hx0:=hx2;clear h122 h132 hx2;refine ze ?_;go_wp2_with fail
 go_meet;exact⟨g12,g13,rfl,rfl,hx0,h12,h13⟩
 ):P:=h
theorem yQ08b5 {P:Prop}(h:P:=by
 refine hK.out _ _ hx0 ?_;refine pT ?_;refine uQ ?_;refine zd fun K hK=>?_;go_simp;refine (hLT.out w21).mono ?_;rintro e w22 ⟨AL,cL,rfl,hownL,hx1⟩;have hIL:=zap.own hownL;clear hownL;replace hx0:=hx0.trans hx1;replace hI:=hI.ext hx1;clear hx1;refine hK.out _ _ hx0 ?_;refine pT ?_;exact yQ08c3
 ):P:=h
theorem yQ08a9 {P:Prop}(h:P:=by
 refine zd fun K hK=>?_;go_simp;refine (hSZ.out _ hx0).mono (mQ fun w21 hx1=>?_);replace hx0:=hx0.trans hx1;replace hI:=hI.ext hx1;clear hx1;exact yQ08b5
 ):P:=h
theorem yQ08a10 {P:Prop}(h:P:=by
 refine zd fun K hK=>?_;go_simp;exact yQ08b5
 ):P:=h
theorem zfX {ga:Nat}    {m1 d1:Nat}  {m1' d1' lo1 hi1:Nat}  {m2 d2:Nat}  {m2' d2':Nat}  
  (h:zet w lo hi A k ss) (hap:zE ss=true) (hT:Tab w) (hga:Blk w ga 26 #[a.al,.slice B m1 d1,.slice B' m1' d1']) (hA0:zI w lo1 hi1 B m1 B' m1' a) (hv:zh a=true) (hP0:zI w lo2 hi2 C m2 C' m2' p) (hp:zh p=true) :
  Calls Tryz.prog 168 #[.slice A k c,.pointer (some ga),.agg #[p.al,.slice C m2 d2,.slice C' m2' d2']] w (zO w (zbP ss a p) [0] (zcF a p) (letters (zV ss|||a.al.toNat) 6)):=by
 have H:∀ s∈ss,zl s=true:=by
  unfold zE at hap;simp only [dF,eG] at hap;exact hap.2.2
 have av:k<=3:=by
  unfold zE at hap;simp only [dF,decide_eq_true_eq] at hap;have:=h.1;omega
 have r:=za (fun (s:Sys) (hs:s∈ss)=>zcR (H s hs));have au:=za (fun (s:Sys) (hs:s∈ss)=>show Few 16 s.edges from by
  obtain⟨q,_,_,hq,hf⟩:=zcf (H s hs);exact fun e he=>by have:=hf e he;omega)
 have hU:zV ss<=63:=by
  have key:∀ l:List Sys,(∀ s∈l,zl s=true)->zV l<=63:=by
   intro l hl;have:∀ n,zV (l.take n)<=63:=by
    intro n
    induction n with
    |zero=>simp [zV]
    |succ n ih =>
     rcases eT n l.length with L|L
     ·rw [zbW (dC L)];have:=zQ (hl _ (fO L));have:=eJ (n:=6) (x:=zV (l.take n)) (y:=l[n].al.toNat) oM oM;omega
     ·rw [dG oM];rw [dG L] at ih;exact ih
   have h2:=this l.length;rwa [eC] at h2
  exact key ss H
 have aD:=(zk hv).1;obtain⟨al,v⟩:∃ al:Nat,Hid (a.al=al):=⟨a.al.toNat,by unfold Hid;omega⟩;have aZ:al<=63:=oH v.out;have aG:=za (show zaG ss=(zV ss:Int) by unfold zaG;rw [hap];rfl);have aq:=za (show a.al.toNat=al by have:=v.out;omega);have a0:=za (show 0<=p.al∧p.al<=63 from (zk hp).1);rw [aq.out];have HS:=za (fun W (hW:Ext w W)=>h.ext hW);have HT:=za (fun W (hW:Ext w W)=>hT.ext hW);have HA:=za (fun W (hW:Ext w W)=>hA0.ext hW);have HP:=za (fun W (hW:Ext w W)=>hP0.ext hW);have ae:=za (fun W (hW:Ext w W)=>hga.ext hW);have Hv:=za hv;have Z:=za hp;generalize hUe:zV ss=U at *;have HU:=za hUe;clear hUe h hT hA0 hP0 hga hv hp hap H aD
 go_enter Tryz.func168,Tryz.ntmps168
 go_upto_region 1 with fail
 generalize U0:(w.alloc _).alloc _=w2 at *;obtain⟨E,b4,b5⟩:=Ext.x2_ U0;clear U0;go_upto_region 2 with (go_at_call 197;refine (zeX (HS.out _ E) au.out oM).mono ?_;rintro e w3 ⟨M,dm,rfl,aw,Y⟩)
 have aK:=E.trans Y;have b8:=dT w3 217 #[.slice A k c,.slice M k dm];have J:=Y.alloc (.cells #[.slice A k c,.slice M k dm] 217);have O:=aw.ext ((cW w3).alloc (.cells #[.slice A k c,.slice M k dm] 217));generalize hg8:w3.heap.size=g8 at *;clear aw hg8;generalize w3.alloc _=w4 at *;have V:=E.trans J;clear aK Y;go_upto_region 3 with (go_at_call 87;refine (zbc (HS.out _ V)).mono ?_;rw [aG.out];rintro e i ⟨rfl,t⟩)
 have R:=b4.ext (J.trans t);have af:=b5.ext (J.trans t);have ag:=b8.ext t;have Q:=O.ext t;have I:=V.trans t;have k4:=R.cell 0;clear J t b4 b5 b8 O E V;go_upto_region 5 with fail
 clear k4;have ah:=za (fun W (hW:Ext i W)=>R.ext hW);have ai:=za (fun W (hW:Ext i W)=>af.ext hW);have aB:=za (fun W (hW:Ext i W)=>ag.ext hW);have an:=za (fun W (hW:Ext i W)=>Q.ext hW);clear R af ag Q;have u:=za (fun W (hW:Ext i W)=>ae.out W (I.trans hW));have ad:=za (fun W (hW:Ext i W)=>HA.out W (I.trans hW));clear ae HA
 go_cut [10,11] (fun v10 v11 wx=>∃ (g10 g11:Nat) (UA RA:Option Addr) (uc rc:Nat),v10=.pointer (some g10)∧v11=.pointer (some g11)∧Ext i wx∧Blk wx g10 168 #[.slice UA a.next.length uc]∧Blk wx g11 168 #[.slice RA p.next.length rc]∧TbO wx UA uc a∧TbO wx RA rc p)
 case first =>
  have c4:∀ W,Ext i W->W.cell? w.heap.size=some (.pointer (some ga)):=fun W hW=>by rw [(ah.out W hW).cell];rfl
  have ca:∀ W,Ext i W->∀ j,W.cell? ⟨ga,j,none⟩=#[Value.int .i64 a.al,.slice B m1 d1,.slice B' m1' d1'][j]?:=fun W hW=>(u.out W hW).cell;have c5:∀ W,Ext i W->∀ j,W.cell? ⟨w.heap.size+1,j,none⟩=#[Value.int .i64 p.al,.slice C m2 d2,.slice C' m2' d2'][j]?:=fun W hW=>(ai.out W hW).cell;have hTA:=za (fun W (hW:Ext i W)=>zcc (d:=d1) (d':=d1') (ad.out W hW) Hv.out);have hTP:=za (fun W (hW:Ext i W)=>zcc (d:=d2) (d':=d2') (HP.out W (I.trans hW)) Z.out);have F:=cW i;refine uR (fun X=>Ext i X) [5,8,9] (zw.app [0,4] (zw.three 1 (zw.app [2] (zw.three 3 (zw.three 5 (zw.two 6 (zw.of [7,8,9]) 7 (zw.of [6,8,9])) 6 (zw.two 5 (zw.of [7,8,9]) 7 (zw.of [5,8,9])) 7 (zw.two 5 (zw.of [6,8,9]) 6 (zw.of [5,8,9]))) 6 (zw.two 3 (zw.two 5 (zw.of [7,8,9]) 7 (zw.of [5,8,9])) 7 (zw.of [3,5,8,9])) 7 (zw.two 3 (zw.two 5 (zw.of [6,8,9]) 6 (zw.of [5,8,9])) 6 (zw.of [3,5,8,9])))) 6 (zw.two 1 (zw.app [2] (zw.two 3 (zw.two 5 (zw.of [7,8,9]) 7 (zw.of [5,8,9])) 7 (zw.of [3,5,8,9]))) 7 (zw.of [1,2,3,5,8,9])) 7 (zw.two 1 (zw.app [2] (zw.two 3 (zw.two 5 (zw.of [6,8,9]) 6 (zw.of [5,8,9])) 6 (zw.of [3,5,8,9]))) 6 (zw.of [1,2,3,5,8,9])))) ?_;refine uQ ?_;have hx0:Ext i i.drew:=F.drew;generalize i.drew=f at *;refine uQ ?_;refine zaH (fun K hK=>?_) (fun K hK=>?_) (fun K hK=>?_)
  ·go_simp;refine hK.out _ _ hx0 ?_;refine pT ?_;refine uQ ?_;refine zaH (fun K hK=>?_) (fun K hK=>?_) (fun K hK=>?_)
   ·go_simp;refine (hTA.out _ hx0).mono ?_;rintro e w20 ⟨UA,uc,rfl,hA,hx1⟩;replace hx0:=hx0.trans hx1;clear hx1;refine hK.out _ _ hx0 ?_;refine pT ?_;refine zaH (fun K hK=>?_) (fun K hK=>?_) (fun K hK=>?_)
    ·go_simp;refine (hTP.out _ hx0).mono ?_;rintro e w21 ⟨RA,rc,rfl,hP,hx1⟩;replace hx0:=hx0.trans hx1;replace hA:=hA.ext hx1;clear hx1;refine hK.out _ _ hx0 ?_;refine pT ?_;refine zm (fun K hK=>?_) (fun K hK=>?_)
     ·go_simp;have hGh10:=hx0.size;have hx1:=(cW w21).alloc (.cells #[()] 168);replace hx0:=hx0.trans hx1;replace hA:=hA.ext hx1;replace hP:=hP.ext hx1;clear hx1;refine hK.out _ _ hx0 ?_;refine pT ?_;generalize U0:w21.alloc _=w22 at *;have h10:=dW U0;clear U0;generalize w21.heap.size=g10 at *;exact yQ08a6
     ·go_simp;have hGh11:=hx0.size;have hx1:=(cW w21).alloc (.cells #[()] 168);replace hx0:=hx0.trans hx1;replace hA:=hA.ext hx1;replace hP:=hP.ext hx1;clear hx1;refine hK.out _ _ hx0 ?_;refine pT ?_;generalize U0:w21.alloc _=w22 at *;have h11:=dW U0;clear U0;generalize w21.heap.size=g11 at *;exact yQ08a5
    ·go_simp;have hGh10:=hx0.size;have hx1:=(cW w20).alloc (.cells #[()] 168);replace hx0:=hx0.trans hx1;replace hA:=hA.ext hx1;clear hx1;refine hK.out _ _ hx0 ?_;refine pT ?_;generalize U0:w20.alloc _=w21 at *;have h10:=dW U0;clear U0;generalize w20.heap.size=g10 at *;refine zm (fun K hK=>?_) (fun K hK=>?_)
     ·go_simp;refine (hTP.out _ hx0).mono ?_;rintro e w22 ⟨RA,rc,rfl,hP,hx1⟩;replace hx0:=hx0.trans hx1;replace h10:=h10.ext hx1;replace hA:=hA.ext hx1;clear hx1;refine hK.out _ _ hx0 ?_;refine pT ?_;exact yQ08a6
     ·go_simp;have hne:=eL h10.lt;have hGh11:=hx0.size;have hx1:=(cW w21).alloc (.cells #[()] 168);replace hx0:=hx0.trans hx1;replace h10:=h10.ext hx1;replace hA:=hA.ext hx1;clear hx1;refine hK.out _ _ hx0 ?_;refine pT ?_;generalize U0:w21.alloc _=w22 at *;have h11:=dW U0;clear U0;generalize w21.heap.size=g11 at *;exact yQ08a7
    ·go_simp;have hGh11:=hx0.size;have hx1:=(cW w20).alloc (.cells #[()] 168);replace hx0:=hx0.trans hx1;replace hA:=hA.ext hx1;clear hx1;refine hK.out _ _ hx0 ?_;refine pT ?_;generalize U0:w20.alloc _=w21 at *;have h11:=dW U0;clear U0;generalize w20.heap.size=g11 at *;refine zm (fun K hK=>?_) (fun K hK=>?_)
     ·go_simp;refine (hTP.out _ hx0).mono ?_;rintro e w22 ⟨RA,rc,rfl,hP,hx1⟩;replace hx0:=hx0.trans hx1;replace h11:=h11.ext hx1;replace hA:=hA.ext hx1;clear hx1;refine hK.out _ _ hx0 ?_;refine pT ?_;exact yQ08a5
     ·go_simp;have hne:=eL h11.lt;have hGh10:=hx0.size;have hx1:=(cW w21).alloc (.cells #[()] 168);replace hx0:=hx0.trans hx1;replace h11:=h11.ext hx1;replace hA:=hA.ext hx1;clear hx1;refine hK.out _ _ hx0 ?_;refine pT ?_;generalize U0:w21.alloc _=w22 at *;have h10:=dW U0;clear U0;generalize w21.heap.size=g10 at *;exact yQ08a7
   ·go_simp;have hGh10:=hx0.size;have hx1:=(cW f).alloc (.cells #[()] 168);replace hx0:=hx0.trans hx1;clear hx1;refine hK.out _ _ hx0 ?_;refine pT ?_;generalize U0:f.alloc _=w20 at *;have h10:=dW U0;clear U0;generalize f.heap.size=g10 at *;exact yQ08a2
   ·go_simp;have hGh11:=hx0.size;have hx1:=(cW f).alloc (.cells #[()] 168);replace hx0:=hx0.trans hx1;clear hx1;refine hK.out _ _ hx0 ?_;refine pT ?_;generalize U0:f.alloc _=w20 at *;have h11:=dW U0;clear U0;generalize f.heap.size=g11 at *;exact yQ08a1
  ·go_simp;have hGh10:=hx0.size;have hx1:=(cW f).alloc (.cells #[()] 168);replace hx0:=hx0.trans hx1;clear hx1;refine hK.out _ _ hx0 ?_;refine pT ?_;generalize U0:f.alloc _=w20 at *;have h10:=dW U0;clear U0;generalize f.heap.size=g10 at *;refine zm (fun K hK=>?_) (fun K hK=>?_)
   ·go_simp;refine hK.out _ _ hx0 ?_;refine pT ?_;refine uQ ?_;exact yQ08a2
   ·go_simp;have hne:=eL h10.lt;have hGh11:=hx0.size;have hx1:=(cW w20).alloc (.cells #[()] 168);replace hx0:=hx0.trans hx1;replace h10:=h10.ext hx1;clear hx1;refine hK.out _ _ hx0 ?_;refine pT ?_;generalize U0:w20.alloc _=w21 at *;have h11:=dW U0;clear U0;generalize w20.heap.size=g11 at *;exact yQ08a4
  ·go_simp;have hGh11:=hx0.size;have hx1:=(cW f).alloc (.cells #[()] 168);replace hx0:=hx0.trans hx1;clear hx1;refine hK.out _ _ hx0 ?_;refine pT ?_;generalize U0:f.alloc _=w20 at *;have h11:=dW U0;clear U0;generalize f.heap.size=g11 at *;refine zm (fun K hK=>?_) (fun K hK=>?_)
   ·go_simp;refine hK.out _ _ hx0 ?_;refine pT ?_;refine uQ ?_;exact yQ08a1
   ·go_simp;have hne:=eL h11.lt;have hGh10:=hx0.size;have hx1:=(cW w20).alloc (.cells #[()] 168);replace hx0:=hx0.trans hx1;replace h11:=h11.ext hx1;clear hx1;refine hK.out _ _ hx0 ?_;refine pT ?_;generalize U0:w20.alloc _=w21 at *;have h10:=dW U0;clear U0;generalize w20.heap.size=g10 at *;exact yQ08a4
 case rest =>
  obtain⟨g10,g11,UA,RA,uc,rc,rfl,rfl,hx6,h10,h11,hA,hP⟩:=hcut;have ak:=za (fun W (hW:Ext wc W)=>h10.ext hW);have am:=za (fun W (hW:Ext wc W)=>h11.ext hW);have aL:=I.trans hx6;go_upto_region 6 with fail
  go_cut [12,13] (fun v12 v13 wx=>∃ (g12 g13:Nat),v12=.pointer (some g12)∧v13=.pointer (some g13)∧Ext wc wx∧Blk wx g12 3 #[.int .i64 (a.next.length:Nat)]∧Blk wx g13 3 #[.int .i64 (p.next.length:Nat)])
  case first =>
   have a4:∀ W,Ext wc W->W.cell? g10=some (.slice UA a.next.length uc):=fun W hW=>by rw [(ak.out W hW).cell];rfl
   have a5:∀ W,Ext wc W->W.cell? g11=some (.slice RA p.next.length rc):=fun W hW=>by rw [(am.out W hW).cell];rfl
   have F:=cW wc;clear h10 h11 hA hP;refine uR (fun X=>Ext wc X) [7] (zw.app [0,1,2,3] (zw.two 4 (zw.of [5,6,7]) 5 (zw.of [4,6,7]))) ?_;refine uQ ?_;have hx0:Ext wc wc.drew:=F.drew;generalize wc.drew=f at *;refine uQ ?_;refine zm (fun K hK=>?_) (fun K hK=>?_)
   ·go_simp;have hGh12:=hx0.size;have hx1:=(cW f).alloc (.cells #[(0:Int)] 3);replace hx0:=hx0.trans hx1;clear hx1;refine hK.out _ _ hx0 ?_;refine pT ?_;generalize U0:f.alloc _=w20 at *;have h12:=dW U0;clear U0;generalize f.heap.size=g12 at *;refine zd fun K hK=>?_;go_simp;have hne:=eL h12.lt;have hGh13:=hx0.size;have hx1:=(cW w20).alloc (.cells #[(0:Int)] 3);replace hx0:=hx0.trans hx1;replace h12:=h12.ext hx1;clear hx1;refine hK.out _ _ hx0 ?_;refine pT ?_;generalize U0:w20.alloc _=w21 at *;have h13:=dW U0;clear U0;generalize w20.heap.size=g13 at *;exact yQ08a8
   ·go_simp;have hGh13:=hx0.size;have hx1:=(cW f).alloc (.cells #[(0:Int)] 3);replace hx0:=hx0.trans hx1;clear hx1;refine hK.out _ _ hx0 ?_;refine pT ?_;generalize U0:f.alloc _=w20 at *;have h13:=dW U0;clear U0;generalize f.heap.size=g13 at *;refine zd fun K hK=>?_;go_simp;have hne:=eL h13.lt;have hGh12:=hx0.size;have hx1:=(cW w20).alloc (.cells #[(0:Int)] 3);replace hx0:=hx0.trans hx1;replace h13:=h13.ext hx1;clear hx1;refine hK.out _ _ hx0 ?_;refine pT ?_;generalize U0:w20.alloc _=w21 at *;have h12:=dW U0;clear U0;generalize w20.heap.size=g12 at *;exact yQ08a8
  case rest =>
   obtain⟨g12,g13,rfl,rfl,g,h12,h13⟩:=hcut;rename World=>w7
   have hw9:=aL.trans g;have hC:BCaps w7 g8 g10 g11 g12 g13 A M UA RA k c dm uc rc ss a p:=by
    obtain⟨aN,aE,aJ⟩:=hA.at_;obtain⟨aO,aF,aI⟩:=hP.at_;exact⟨aB.out _ (hx6.trans g),h10.ext g,h11.ext g,h12,h13,⟨_,_,_,_,an.out _ (hx6.trans g)⟩,⟨aN,aE,aJ.ext g⟩,⟨aO,aF,aI.ext g⟩⟩
   have T:GCaps w7 w.heap.size ga (w.heap.size+1) g12 g13 a p:=⟨ah.out _ (hx6.trans g),⟨B,m1,d1,B',m1',d1',lo1,hi1,u.out _ (hx6.trans g),ad.out _ (hx6.trans g)⟩,⟨C,m2,d2,C',m2',d2',lo2,hi2,ai.out _ (hx6.trans g),HP.out _ hw9⟩,h12,h13⟩;obtain⟨N,hN⟩:∃ N:Nat,Hid (zZ (zbe ss [a,p])=N):=⟨_,rfl⟩;obtain⟨⟨_,aR⟩,⟨_,aP⟩⟩:=And.intro (zk Hv.out).2.1 (zk Z.out).2.1;obtain⟨⟨n1,_⟩,⟨aQ,_⟩⟩:=And.intro (zk Hv.out).2.1 (zk Z.out).2.1;obtain⟨S,hS⟩:∃ S:Nat,Hid (zZ (ss.map zeE)=S):=⟨_,rfl⟩;have ao:1<=S∧S<=4096:=by
    rw [← hS.out];refine⟨zdh r.out,dJ (zcA r.out) ?_⟩;have:=(HS.out w (cW _)).1
    calc 16 ^ ss.length<=16 ^ 3:=dV oM oM
     _=4096:=dM
   have G:S*a.next.length*p.next.length=N:=by
    rw [← hN.out,← hS.out,show zbe ss [a,p]=ss.map zeE++[zdx a,zdx p] from rfl,zce];simp [zZ,zay,zdx,Nat.mul_assoc]
   have ap:S*a.next.length<=4096*12:=Nat.mul_le_mul ao.2 aR;have aY:N<=4096*12*12:=by rw [← G];exact Nat.mul_le_mul ap aP
   have bb:1<=N:=by rw [← G];exact Nat.mul_pos (Nat.mul_pos ao.1 n1) aQ
   obtain⟨sn,ax⟩:∃ z:Nat,Hid (S*a.next.length=z):=⟨_,rfl⟩;rw [ax.out] at G ap;have a1:(S:Int)*(a.next.length:Int)=(sn:Int):=by rw [← ax.out];exact (fC S _).symm
   have bc:(sn:Int)*(p.next.length:Int)=(N:Int):=by rw [← G];exact (fC sn _).symm
   have Hd:=za (show ∀ x l,x<N->l<6->∀ y∈zbP ss a p x l,y<N from fun x l _ hl y hy=>by
    rw [zdM] at hy;rw [← hN.out];refine pnx_lt (fun mm hmm=>?_) hl y hy;rcases List.mem_append.1 hmm with L|L
    ·obtain⟨s,aH,rfl⟩:=List.mem_map.1 L;exact zfy (r.out s aH)
    ·obtain⟨b,ar,rfl⟩:=List.mem_map.1 L;simp at ar;rcases ar with rfl|rfl
     ·exact zcY Hv.out
     ·exact zcY Z.out)
   have aA:=za (show ∀ x l,(zbP ss a p x l).length<=4096 from fun x l=>by
    unfold zbP;rw [dO];refine dJ (nx_len r.out _ l) ?_;have:=(HS.out w (cW _)).1
    calc 16 ^ ss.length<=16 ^ 3:=dV oM oM
     _=4096:=by decide)
   have o:=za (zfK (U|||al));have key:=za (fun W (hW:Ext w7 W) A1 c1 AL q' cL (hA1:zap W A1 1 [0]) (hL:zap W AL q' (letters (U|||al) 6))=>zeT (w:=W) (N:=N) (kn:=198) (kg:=200) (m:=1) (c:=c1) (cL:=cL)
    (capn:=#[.pointer (some g10),.pointer (some g13),.pointer (some g12),.pointer (some g11),.pointer (some g8)])
    (capg:=#[.pointer (some w.heap.size),.pointer (some g13),.pointer (some g12),.pointer (some ⟨w.heap.size+1,0,none⟩)])
    (goal:=zcF a p) (d:=zbP ss a p) (D:=4096) hA1 (fun n hn=>by simp at hn;omega) oM hL o.out oM oM (fun args W=>kM) (fun args W=>kM)
    (fun W' hW' n hn=>brk_goal (T.ext (hW.trans hW')) Hv.out Z.out oM)
    (fun n l hn hl=>⟨aA.out n l,Hd.out n l hn (o.out.1 l hl)⟩)
    (fun W' hW' n l hn hl base A m c xs hb0 hb hm zjc=>brk_next (hC.ext hW) (HT.out _ (hw9.trans hW)) hW' r.out av Hv.out Z.out (by rw [hN.out];exact hn) (o.out.1 l hl) hb0 hb hm zjc))
   have hSZ:=za (show ∀ W,Ext w7 W->Calls Tryz.prog 202 #[.agg #[.slice A k c,.slice M k dm]] W fun e w'=>e=.returned (.int .i64 (S:Nat))∧Ext W w' from fun W hW=>by
    have:=zhU (c:=c) (dm:=dm) (an.out W ((hx6.trans g).trans hW)) r.out av;rw [hS.out] at this;exact this)
   have hLT:=za (fun W=>zbr (U|||al) (by have:=eJ (n:=6) (x:=U) (y:=al) oM oM;unfold Sm;omega) W);have be:bits .or .i64 (U:Int) (al:Int)=((U|||al:Nat):Int):=zbz tM tM;have c8:=fun W (hW:Ext w7 W)=>(hC.h8.ext hW).cell;have a6:∀ W,Ext w7 W->W.cell? g12=some (.int .i64 (a.next.length:Nat)):=fun W hW=>by rw [(hC.h12.ext hW).cell];rfl
   have a7:∀ W,Ext w7 W->W.cell? g13=some (.int .i64 (p.next.length:Nat)):=fun W hW=>by rw [(hC.h13.ext hW).cell];rfl
   have c4:∀ W,Ext w7 W->W.cell? w.heap.size=some (.pointer (some ga)):=fun W hW=>by rw [(T.h4.ext hW).cell];rfl
   have ca:∀ W,Ext w7 W->∀ j,W.cell? ⟨ga,j,none⟩=#[Value.int .i64 (al:Nat),.slice B m1 d1,.slice B' m1' d1'][j]?:=fun W hW=>by
    have:=(u.out W ((hx6.trans g).trans hW)).cell;rw [v.out] at this;exact this
   have bf:IntKind.i64.wrap (sn:Int)=(sn:Int):=zge sn oM;have E:IntKind.i64.wrap (N:Int)=(N:Int):=zge N oM;have F:=cW w7;clear hC T h10 h11 h12 h13 hA hP;go_upto_region 9 with fail
   refine uR (fun X=>Ext w7 X) [16] (zw.app [0,2,4,7,8,14,15] (zw.three 1 (zw.app [3,5] (zw.two 6 (zw.of [9,10,11,12,13,16,17,18,19,20]) 9 (zw.app [10,11,12] (zw.two 6 (zw.of [13,16,17,18,19,20]) 13 (zw.of [6,16,17,18,19,20]))))) 6 (zw.two 1 (zw.of [3,5,9,10,11,12,13,16,17,18,19,20]) 9 (zw.of [10,11,12,1,3,5,13,16,17,18,19,20])) 9 (zw.app [10,11,12] (zw.two 1 (zw.app [3,5] (zw.two 6 (zw.of [13,16,17,18,19,20]) 13 (zw.of [6,16,17,18,19,20]))) 6 (zw.of [1,3,5,13,16,17,18,19,20]))))) ?_;refine uQ ?_;have hx0:Ext w7 w7.drew:=F.drew;generalize w7.drew=f at *;refine uQ ?_;refine zaH (fun K hK=>?_) (fun K hK=>?_) (fun K hK=>?_)
   ·go_simp;refine (hSZ.out _ hx0).mono (mQ fun w20 hx1=>?_);replace hx0:=hx0.trans hx1;clear hx1;refine hK.out _ _ hx0 ?_;refine pT ?_;refine uQ ?_;refine zm (fun K hK=>?_) (fun K hK=>?_)
    ·go_simp;have hI:=zcz (x:=0) (dT w20 3 #[.int .i64 ((0:Nat):Int)]);have hx1:=(cW w20).alloc (.cells #[.int .i64 ((0:Nat):Int)] 3);replace hx0:=hx0.trans hx1;clear hx1;refine hK.out _ _ hx0 ?_;refine pT ?_;generalize w20.alloc _=w21 at *;generalize w20.heap.size=g1 at *;exact yQ08a10
    ·go_simp;exact yQ08a3
   ·go_simp;have hI:=zcz (x:=0) (dT f 3 #[.int .i64 ((0:Nat):Int)]);have hx1:=(cW f).alloc (.cells #[.int .i64 ((0:Nat):Int)] 3);replace hx0:=hx0.trans hx1;clear hx1;refine hK.out _ _ hx0 ?_;refine pT ?_;generalize f.alloc _=w20 at *;generalize f.heap.size=g1 at *;refine zm (fun K hK=>?_) (fun K hK=>?_)
    ·go_simp;refine (hSZ.out _ hx0).mono (mQ fun w21 hx1=>?_);replace hx0:=hx0.trans hx1;replace hI:=hI.ext hx1;clear hx1;refine hK.out _ _ hx0 ?_;refine pT ?_;refine uQ ?_;exact yQ08a10
    ·go_simp;refine hK.out _ _ hx0 ?_;refine pT ?_;refine uQ ?_;exact yQ08a9
   ·go_simp;refine hK.out _ _ hx0 ?_;refine pT ?_;refine uQ ?_;refine zm (fun K hK=>?_) (fun K hK=>?_)
    ·go_simp;refine (hSZ.out _ hx0).mono (mQ fun w20 hx1=>?_);replace hx0:=hx0.trans hx1;clear hx1;exact yQ08a3
    ·go_simp;have hI:=zcz (x:=0) (dT f 3 #[.int .i64 ((0:Nat):Int)]);have hx1:=(cW f).alloc (.cells #[.int .i64 ((0:Nat):Int)] 3);replace hx0:=hx0.trans hx1;clear hx1;refine hK.out _ _ hx0 ?_;refine pT ?_;generalize f.alloc _=w20 at *;generalize f.heap.size=g1 at *;exact yQ08a9
noncomputable def lostB (d:Nat->Nat->List Nat) (start:List Nat) (goal:Nat->Bool) (L:List Nat):Bool:=@decide (Lost d start goal L) (Classical.propDecidable _)
noncomputable def zfI (d:Nat->Nat->List Nat) (start:List Nat) (goal:Nat->Bool) (L:List Nat):List Nat:=@dite _ (∃ v,Found d start goal L v) (Classical.propDecidable _) (fun h=>Classical.choose h) (fun _=>[])
section
variable {d:Nat->Nat->List Nat} {start L:List Nat} {goal:Nat->Bool}
theorem found_uniq (h6:∀ l∈L,l<6) {u:List Nat}(hu:Found d start goal L u)(hv:Found d start goal L v):u=v:=by
 obtain⟨a,⟨x,c,f⟩,g⟩:=hu;obtain⟨b,⟨y,i,j⟩,k⟩:=hv;have m:¬ zcr u<zcr v:=fun h=>by
  have:=k u a h x c;rw [f] at this;cases this
 have n:¬ zcr v<zcr u:=fun h=>by
  have:=g v b h y i;rw [j] at this;cases this
 exact wval_inj _ u v (cY _) (fun l hl=>h6 l (a l hl)) (fun l hl=>h6 l (b l hl)) oM
theorem zgD (h6:∀ l∈L,l<6) (h:Found d start goal L v):zfI d start goal L=v∧lostB d start goal L=false:=by
 constructor
 ·unfold zfI;rw [@dif_pos _ (Classical.propDecidable _) ⟨v,h⟩];exact found_uniq h6 (Classical.choose_spec (⟨v,h⟩:∃ v,Found d start goal L v)) h
 ·refine @decide_eq_false _ (Classical.propDecidable _) fun hl=>?_;obtain⟨a,⟨x,b,c⟩,_⟩:=h;have:=hl v a x b;rw [c] at this;cases this
theorem zhT (h:Lost d start goal L):zfI d start goal L=[]∧lostB d start goal L=true:=by
 constructor
 ·unfold zfI;rw [@dif_neg _ (Classical.propDecidable _)];rintro ⟨v,a,⟨x,b,c⟩,_⟩;have:=h v a x b;rw [c] at this;cases this
 ·exact @decide_eq_true _ (Classical.propDecidable _) h
theorem zO.first {e:Ending} (h:zO w d start goal L e w')(h6:∀ l∈L,l<6):e=.returned (.tuple #[.string (wstr (zfI d start goal L)),.bool (!lostB d start goal L)])∧Ext w w':=by
 obtain⟨c,⟨v,rfl,hF⟩|⟨rfl,hL⟩⟩:=h
 ·obtain⟨a,b⟩:=zgD h6 hF;rw [a,b];exact⟨rfl,c⟩
 ·obtain⟨a,b⟩:=zhT hL;rw [a,b];exact⟨rfl,c⟩
end
noncomputable def vioW (ss:List Sys) (a p:Aut):ByteArray:=wstr (zfI (zbP ss a p) [0] (zcF a p) (letters (zV ss|||a.al.toNat) 6))
noncomputable def vioB (ss:List Sys) (a p:Aut):Bool:=!lostB (zbP ss a p) [0] (zcF a p) (letters (zV ss|||a.al.toNat) 6)
theorem zdf (a:Nat):∀ l∈letters a 6,l<6:=fun _ hl=>(zW.1 hl).1
theorem brkD_free (ss:List Sys) (p:Aut):zbP ss free p=pnx (zbe ss [p]):=by
 rw [zdM]
 funext x l
 exact pnx_free ss p x l
theorem brkG_free (p:Aut) (x:Nat):zcF free p x=!zdr p (x % p.next.length):=by
 unfold zcF;rw [show free.next.length=1 from rfl,Nat.mod_one];rfl
theorem sl_one (hb:Blk w g 39 #[s.al,s.st,.slice B n c])(h:zR w lo hi B n s):∃ lo hi,zet w lo hi (some ⟨g,0,none⟩) 1 [s]:=by
 refine⟨0,hi+g+1,rfl,[.int .i64 s.al,.int .i64 s.st,.slice B n c],⟨rfl,oM,fun _=>⟨_,rfl,dD _,by dsimp only;omega,fun j u hu=>?_⟩⟩,fun k t ht=>?_⟩
 ·rw [zK,dS,hb.cell];simpa using hu
 ·cases k with
  |zero =>
   simp at ht;subst ht;exact⟨B,n,c,rfl,rfl,rfl,h.1,h.2.more (dD _) oM⟩
  |succ k=>simp at ht
theorem al_one (hb:Blk w g 26 #[a.al,.slice B n c,.slice B' n' c'])(h:zI w lo hi B n B' n' a):∃ lo hi,ALAt w lo hi (some ⟨g,0,none⟩) 1 [a]:=by
 refine⟨0,hi+g+1,rfl,[.int .i64 a.al,.slice B n c,.slice B' n' c'],⟨rfl,oM,fun _=>⟨_,rfl,dD _,by dsimp only;omega,fun j u hu=>?_⟩⟩,fun k t ht=>?_⟩
 ·rw [zK,dS,hb.cell];simpa using hu
 ·cases k with
  |zero =>
   simp at ht;subst ht;exact⟨B,n,c,B',n',c',rfl,rfl,rfl,h.more (dD _) oM⟩
  |succ k=>simp at ht
theorem al_two {m d m' d':Nat}  (hb:Blk w g 26 #[a.al,.slice B n c,.slice B' n' c',p.al,.slice C m d,.slice C' m' d'])(h:zI w lo hi B n B' n' a)(h':zI w lo2 hi2 C m C' m' p):∃ lo hi,ALAt w lo hi (some ⟨g,0,none⟩) 2 [a,p]:=by
 refine⟨0,hi+hi2+g+1,rfl,[.int .i64 a.al,.slice B n c,.slice B' n' c',.int .i64 p.al,.slice C m d,.slice C' m' d'],⟨rfl,oM,fun _=>⟨_,rfl,dD _,by dsimp only;omega,fun j u hu=>?_⟩⟩,fun k t ht=>?_⟩
 ·rw [zK,dS,hb.cell];simpa using hu
 ·match k with
  |0 =>
   simp at ht;subst ht;exact⟨B,n,c,B',n',c',rfl,rfl,rfl,h.more (dD _) oM⟩
  |1 =>
   simp at ht;subst ht;exact⟨C,m,d,C',m',d',rfl,rfl,rfl,h'.more (dD _) oM⟩
  |k+2=>simp at ht
theorem zeros_row {base:Nat}(h:w.ownsRow base 3 1 (.slice (some g) n n) n (zas (dN n 0))):Lst zbo w base w.heap.size (some ⟨g,0,none⟩) (dN n 0):=by
 have a:=Lst.ah (xs:=dN n 0) (W:=w) (base:=base) (c:=n) (A:=some ⟨g,0,none⟩) (by rw [List.length_replicate];exact h);exact a
theorem zeros_blk {cs:Array Value}(h:Blk w g 3 cs)(hc:cs.toList=zas (dN n 0))(hn:n<=100):Lst zbo w g (g+1) (some ⟨g,0,none⟩) (dN n 0):=by
 refine Lst.bh ⟨by simp [zas],by simp;omega,fun _=>⟨_,rfl,cY _,sM,fun j u hu=>?_⟩⟩;rw [zK,dS,h.cell];rw [← hc] at hu;simpa using hu
theorem zbT (h:zE ss=true):(1<=ss.length∧ss.length<=3)∧∀ s∈ss,zl s=true:=by
 unfold zE at h;simp only [dF,decide_eq_true_eq,eG] at h;exact⟨⟨h.1,h.2.1⟩,h.2.2⟩
theorem zfm (h:∀ s∈ss,zl s=true):zV ss<=63:=by
 have:∀ n,zV (ss.take n)<=63:=by
  intro n
  induction n with
  |zero=>simp [zV]
  |succ n ih =>
   rcases eT n ss.length with a|a
   ·rw [zbW (dC a)];have:=zQ (h _ (fO a));have:=eJ (n:=6) (x:=zV (ss.take n)) (y:=ss[n].al.toNat) oM oM;omega
   ·rw [dG oM];rw [dG a] at ih;exact ih
 have b:=this ss.length;rwa [eC] at b
theorem first_under (h:zeO w PA pn AA 2 ss [a,p])(hap:zE ss=true)(hv:zh a=true)(hp:zh p=true)(hS:Lst zbo w lo hi SA (dN (pn+2) 0))(hL:L=zV ss|||a.al.toNat) :
  Calls Tryz.prog 173 #[.agg #[.slice PA pn pc,.slice AA 2 ac,.slice SA (pn+2) sc,L,(2:Int),G]] w fun e w'=>e=.returned (.tuple #[.string (vioW ss a p),.bool (vioB ss a p)])∧Ext w w':=by
 obtain⟨⟨D,q⟩,j⟩:=zbT hap;have d:pn=ss.length:=by obtain⟨_,_,B⟩:=h.sys;exact B.1
 have o:zcX ss [a,p]:=⟨j,fun b hb=>by simp at hb;rcases hb with rfl|rfl<;>assumption,q,sM⟩
 have H:=zfm j;have C:=(zk hv).1;have i:L<64:=by
  rw [hL];exact eJ (n:=6) oM oM
 obtain⟨_,⟨r,_⟩,t,_⟩:=zk hv;obtain⟨_,⟨E,_⟩,F,_⟩:=zk hp;have f:szs ss [a,p]=ss.map (fun s=>s.st.toNat)++[a.next.length,p.next.length]:=rfl;have g:(szs ss [a,p]).length=pn+2:=by rw [f];simp [d]
 have key:=zdu (pc:=pc) (ac:=ac) (sc:=sc) (K:=2) (G:=G) (goal:=zcF a p) h o hS g i (fun W hW x A l hh c mv hx hl=>by
  have y:(szs ss [a,p])[pn]?=some a.next.length:=by rw [f,dP (by simp [d])];simp [d]
  have z:(szs ss [a,p])[pn+1]?=some p.next.length:=by rw [f,dP (by simp [d])];simp [d]
  have u:(szs ss [a,p]).drop (pn+1)=[p.next.length]:=by
   rw [f,List.drop_append,fU (by simp [d])];simp [d]
  have v:(szs ss [a,p]).drop (pn+1+1)=[]:=fU (by rw [g];omega);have k:=zik (x:=x) y;have m:=zik (x:=x) z;rw [u] at k;rw [v] at m;simp only [zay,Nat.mul_one,Nat.div_one] at k m;exact ziR (h.ext hW) hl (by rw [zcL,g]) k (by rw [t];exact fX _ r) m (by rw [F];exact fX _ E))
 refine key.mono fun e w' hr=>?_;have:=hr.first (zdf L)
 rw [← zdM,hL] at this;exact this
theorem zhN (h:zeO w PA pn AA 1 ss [p])(hap:zE ss=true)(hp:zh p=true)(hS:Lst zbo w lo hi SA (dN (pn+1) 0))(hL:L=zV ss) :
  Calls Tryz.prog 173 #[.agg #[.slice PA pn pc,.slice AA 1 ac,.slice SA (pn+1) sc,L,(3:Int),G]] w fun e w'=>e=.returned (.tuple #[.string (vioW ss free p),.bool (vioB ss free p)])∧Ext w w':=by
 obtain⟨⟨q,k⟩,f⟩:=zbT hap;have d:pn=ss.length:=by obtain⟨_,_,o⟩:=h.sys;exact o.1
 have j:zcX ss [p]:=⟨f,fun b hb=>by simp at hb;subst hb;assumption,k,sM⟩;have u:=zfm f;obtain⟨_,⟨r,_⟩,t,_⟩:=zk hp;have g:szs ss [p]=ss.map (fun s=>s.st.toNat)++[p.next.length]:=rfl;have a:(szs ss [p]).length=pn+1:=by rw [g];simp [d]
 have key:=zdu (pc:=pc) (ac:=ac) (sc:=sc) (K:=3) (G:=G) (goal:=zcF free p) h j hS a (show L<64 by omega) (fun W hW x A l hh c mv hx hl=>by
  have n:(szs ss [p])[pn]?=some p.next.length:=by rw [g,dP (by simp [d])];simp [d]
  have m:(szs ss [p]).drop (pn+1)=[]:=fU (by rw [a];omega);have i:=zik (x:=x) n;rw [m] at i;simp only [zay,Nat.div_one] at i;rw [brkG_free];exact ziS (h.ext hW) hl (by rw [zcL,a]) i (by rw [t];exact fX _ r))
 refine key.mono fun e w' hr=>?_;have:=hr.first (zdf L)
 rw [← brkD_free,hL] at this;unfold vioW vioB;rw [show free.al.toNat=0 from rfl,Nat.or_zero];exact this
theorem zfx (s:ByteArray) (a:Nat):(zbj s a).size<=s.size:=by
 have h:=zgM s a s.size;rw [dG sM] at h;have e:(zbj s a).size=(bnum (zeZ a s.data.toList)).length:=by unfold zbj;rw [strOfNums_size]
 rw [e,bnum,dO];exact h
def topB (ss:List Sys) (t:ByteArray):Bool:=zE ss&&(inB t (zV ss)&&ss.all fun s=>zev s (zbj t s.al.toNat) != 0)
section
variable {lo hi n c:Nat} {A:Option Addr} {ss:List Sys} {t:ByteArray} {w:World}
theorem all_next {f:Sys->Bool}  (h:ss[k]?=some s)(ha:(ss.take k).all f=true)(hf:f s=true):(ss.take (k+1)).all f=true:=by
 rw [List.take_add_one,h,List.all_append,ha];simp [hf]
theorem all_not {f:Sys->Bool}  (h:ss[k]?=some s)(hf:f s=false):ss.all f=false:=by
 rw [List.all_eq_false];exact⟨s,cX h,by simp [hf]⟩
theorem yQ08a11 {P:Prop}(h:P:=by
 cases hb:(zev s t' != 0)
 ·have hff:=za (hF.out hb);clear hF hN;go_wp2;go_ret;exact⟨zj (by rw [hr.out,hff.out]),hxr.trans hx6⟩
 ·have hnn:=za (hN.out hb);clear hF hN;go_wp2_with fail
  go_roundw
  case rel=>exact⟨k+1,oM,gM,hnn,hxr.trans hx6⟩
  case measure=>simp [intOf];omega
 ):P:=h
theorem yQ08a12 {P:Prop}(h:P:=by
 obtain rfl:k=n:=oM;have zjf:=za (show (ss.all fun s=>zev s (zbj t s.al.toNat) != 0)=true by have:=hall.out;rwa [List.take_of_length_le (oH hL.out)] at this);go_wp2;go_ret;exact⟨zj (by rw [hr.out,zjf.out]),hxr⟩
 ):P:=h
theorem zcS (h:zet w lo hi A n ss)(ht:t.size<=9223372036854775807) :
  Calls Tryz.prog 95 #[.slice A n c,t] w fun e w'=>e=.returned (.bool (topB ss t))∧Ext w w':=by
 have V:=h.len;have hL:=za h.1;have v:=za (fun W (hW:Ext w W)=>h.ext hW);clear h;cases hp:zE ss
 ·have a:=za (show zaG ss = -1 by unfold zaG;rw [hp];rfl);have hr:=za (show topB ss t=false by unfold topB;rw [hp];rfl);clear hp
  go_enter Tryz.func95,Tryz.ntmps95
  go_wp2_with (go_at_call 130;refine (zab (v.out _ (cW _))).mono ?_;rw [a.out];rintro e L ⟨rfl,l⟩)
  go_ret;exact⟨zj (by rw [hr.out]),l⟩
 ·have J:=za (zbT hp).2;have I:=zfm J.out;have a:=za (show zaG ss=(zV ss:Int) by unfold zaG;rw [hp];rfl);have hr:=za (show topB ss t=(inB t (zV ss)&&ss.all fun s=>zev s (zbj t s.al.toNat) != 0) by unfold topB;rw [hp];rfl);clear hp;generalize zV ss=u at *;cases hi:inB t u
  ·have x:=za hi;rw [hi] at hr;clear hi
   go_enter Tryz.func95,Tryz.ntmps95
   go_wp2_with (first
    |(go_at_call 130;refine (zab (v.out _ (cW _))).mono ?_;rw [a.out];rintro e L ⟨rfl,l⟩)
    |(go_at_call 140;refine (zad ht I).mono ?_;rw [x.out];rintro e R ⟨rfl,rfl⟩))
   go_ret;exact⟨zj (by rw [hr.out];rfl),l⟩
  ·have x:=za hi;have D:=za (zaW hi);rw [hi,Bool.true_and] at hr;clear hi
   go_enter Tryz.func95,Tryz.ntmps95
   go_wp2_with (first
    |(go_at_call 130;refine (zab (v.out _ (cW _))).mono ?_;rw [a.out];rintro e L ⟨rfl,l⟩)
    |(go_at_call 140;refine (zad ht I).mono ?_;rw [x.out];rintro e R ⟨rfl,rfl⟩))
   go_loopw [6] (fun i wr=>∃ k:Nat,k<=n∧i=.int .i64 k∧Hid ((ss.take k).all (fun s=>zev s (zbj t s.al.toNat) != 0)=true)∧Ext w wr) (fun i _=>n - (intOf i).toNat)
   case atStart=>exact⟨0,dD _,rfl,rfl,l⟩
   case round =>
    clear l;obtain⟨k,hk,rfl,hall,hxr⟩:=hrel
    by_cases hlt:k<n
    ·obtain⟨b,o,s,B,q,d,rfl,_,_,C,H,O,Q,p⟩:=(v.out wr hxr).sys hlt;obtain⟨y,z⟩:=zQ (J.out s (cX C.out));obtain⟨al,j⟩:∃ al:Nat,Hid (s.al=al):=⟨s.al.toNat,by unfold Hid;omega⟩;have m:al<=63:=oH j.out;have r:s.al.toNat=al:=oH j.out;have g:=dJ (zfx t al) ht;have M:=za (fun W=>zbV (w:=W) D.out m);have G:=za (fun W (hW:Ext wr W)=>ziH (c:=d) (p.ext hW) g);rw [j.out] at H G;have S:∀ W,Ext wr W->W.cell? ⟨b,o+k*3,none⟩=some (.int .i64 al):=fun W hW=>hW.aa H;have T:∀ W,Ext wr W->W.cell? ⟨b,o+k*3+1,none⟩=some (.int .i64 s.st):=fun W hW=>hW.aa O;have U:∀ W,Ext wr W->W.cell? ⟨b,o+k*3+2,none⟩=some (.slice B q d):=fun W hW=>hW.aa Q;have hN:=za (fun hb=>all_next (f:=fun s=>zev s (zbj t s.al.toNat) != 0) C.out hall.out hb);have hF:=za (fun hb=>all_not (f:=fun s=>zev s (zbj t s.al.toNat) != 0) C.out hb);simp only [r] at hN hF;clear r g p y z hall;generalize zbj t al=t' at *;have E:=cW wr;go_upto_region 7 with fail
     refine uR (fun X=>Ext wr X) [11] (zw.of [0,1,2,3,4,5,6,7,8,9,10,11,12]) ?_;refine uQ ?_;refine zd fun K hK=>?_;go_simp;refine (M.out _).mono (mQ fun w' hx1=>?_);have hx2:=E.drew.trans hx1;refine hK.out _ _ hx2 ?_;refine pT ?_;refine zb fun K hK=>?_;go_simp;refine (G.out _ hx2).mono (mQ fun Y F=>?_);refine hK.out _ _ ?_;refine pT ?_;refine uQ ?_;refine ze ?_;have hx6:=hx2.trans F;exact yQ08a11
    ·exact yQ08a12
theorem zaa (h:zet w lo hi A n ss)(hT:Tab w)(ht:t.size<=9223372036854775807) :
  Calls Tryz.prog 42 #[.slice A n c,t] w fun e w'=>e=.returned (.bool (topB ss t))∧Ext w w':=by
 have hn:=h.len;have hL:=za h.1;have j:=za (fun W (hW:Ext w W)=>h.ext hW);have R:=za (fun W (hW:Ext w W)=>hT.ext hW);clear h hT;cases hp:zE ss
 ·have y:=za hp;have hr:=za (show topB ss t=false by unfold topB;rw [hp];rfl);clear hp
  go_enter Tryz.func42,Tryz.ntmps42
  go_wp2_with (go_at_call 86;refine (zaC (j.out _ (cW _))).mono ?_;rw [y.out];rintro e M ⟨rfl,l⟩)
  go_ret;exact⟨zj (by rw [hr.out]),l⟩
 ·have y:=za hp;have L:=za (zbT hp).2;have J:=zfm L.out;have m:=za (show zaG ss=(zV ss:Int) by unfold zaG;rw [hp];rfl);have hr:=za (show topB ss t=(inB t (zV ss)&&ss.all fun s=>zev s (zbj t s.al.toNat) != 0) by unfold topB;rw [hp];rfl);clear hp;generalize zV ss=u at *;cases hi:inB t u
  ·have z:=za (show (decide (t.size<=50000)&&zdD t u)=false from hi);rw [hi] at hr;clear hi
   go_enter Tryz.func42,Tryz.ntmps42
   go_wp2_with (first
    |(go_at_call 86;refine (zaC (j.out _ (cW _))).mono ?_;rw [y.out];rintro e M ⟨rfl,hx1⟩)
    |(go_at_call 87;refine (zbc (j.out _ hx1)).mono ?_;rw [m.out];rintro e U ⟨rfl,l⟩)
    |(go_at_call 56;refine (zaP t u _ ht J).mono ?_;rw [z.out];rintro e V ⟨rfl,rfl⟩))
   go_ret;exact⟨zj (by rw [hr.out];rfl),hx1.trans l⟩
  ·have z:=za (show (decide (t.size<=50000)&&zdD t u)=true from hi);have F:=za (zaW hi);rw [hi,Bool.true_and] at hr;clear hi
   go_enter Tryz.func42,Tryz.ntmps42
   go_wp2_with (first
    |(go_at_call 86;refine (zaC (j.out _ (cW _))).mono ?_;rw [y.out];rintro e M ⟨rfl,hx1⟩)
    |(go_at_call 87;refine (zbc (j.out _ hx1)).mono ?_;rw [m.out];rintro e U ⟨rfl,l⟩)
    |(go_at_call 56;refine (zaP t u _ ht J).mono ?_;rw [z.out];rintro e V ⟨rfl,rfl⟩))
   go_loopw [6,19] (fun _ i wr=>∃ k:Nat,k<=n∧i=.int .i64 k∧Hid ((ss.take k).all (fun s=>zev s (zbj t s.al.toNat) != 0)=true)∧Ext w wr) (fun _ i _=>n - (intOf i).toNat)
   case atStart=>exact⟨0,dD _,rfl,rfl,hx1.trans l⟩
   case round =>
    clear l hx1;obtain⟨k,hk,rfl,hall,hxr⟩:=hrel
    by_cases hlt:k<n
    ·obtain⟨b,o,s,B,q,d,rfl,_,_,E,T,Y,Z,r⟩:=(j.out wr hxr).sys hlt;obtain⟨C,D⟩:=zQ (L.out s (cX E.out));obtain⟨al,g⟩:∃ al:Nat,Hid (s.al=al):=⟨s.al.toNat,by unfold Hid;omega⟩;have p:al<=63:=oH g.out;have v:s.al.toNat=al:=oH g.out;have a:=dJ (zfx t al) ht;have Q:=za (fun W=>zeY (w:=W) F.out p);have I:=za (fun W (hW:Ext wr W)=>ziq (c:=d) (r.ext hW) (R.out W (hxr.trans hW)) a);rw [g.out] at T I;have hN:=za (fun hb=>all_next (f:=fun s=>zev s (zbj t s.al.toNat) != 0) E.out hall.out hb);have hF:=za (fun hb=>all_not (f:=fun s=>zev s (zbj t s.al.toNat) != 0) E.out hb);simp only [v] at hN hF;clear v a r C D hall;generalize zbj t al=t' at *;go_upto_region 6 with fail
     generalize U0:wr.alloc _=O at *;obtain⟨x,S⟩:=Ext.x1_ U0;clear U0;have c5:=S.cells;have G:=cW O;refine uR (fun X=>Ext O X) [5] (zw.of [0,1,2,3,4,5,6]) ?_;refine uQ ?_;refine zd fun K hK=>?_;go_simp;refine (Q.out _).mono (mQ fun w' hx1=>?_);have hx2:=G.drew.trans hx1;refine hK.out _ _ hx2 ?_;refine pT ?_;refine zb fun K hK=>?_;go_simp;refine (I.out _ (x.trans hx2)).mono (mQ fun w6 H=>?_);refine hK.out _ _ ?_;refine pT ?_;refine uQ ?_;refine ze ?_;have hx6:=x.trans (hx2.trans H);exact yQ08a11
    ·exact yQ08a12
end
theorem union_le14 (h:zE ss=true):zV ss<=63:=by
 have c:∀ s∈ss,zl s=true:=by
  unfold zE at h;simp only [dF,eG] at h;exact h.2.2
 have:∀ n,zV (ss.take n)<=63:=by
  intro n
  induction n with
  |zero=>simp [zV]
  |succ n ih =>
   rcases eT n ss.length with a|a
   ·rw [zbW (dC a)];have:=zQ (c _ (fO a));have:=eJ (n:=6) (x:=zV (ss.take n)) (y:=ss[n].al.toNat) oM oM;omega
   ·rw [dG oM];rw [dG a] at ih;exact ih
 have b:=this ss.length;rwa [eC] at b
theorem partsA_cases (ss:List Sys):(∃ a:Nat,zaG ss=(a:Int)∧a<64)∨zaG ss = -1:=by
 unfold zaG;cases h:zE ss
 ·exact .inr rfl
 ·exact .inl ⟨zV ss,rfl,by have:=union_le14 h;omega⟩
def RetSd (R M L:Nat) (w:World) (e:Ending) (w':World):Prop:=∃ x:ByteArray,e=.returned (.string x)∧x.size<=L∧Rd w' R M∧Dr R w w'
theorem zet.dr (h:zet w lo hi A n ss)(hd:Dr R w w')(hl:R<lo):zet w' lo hi A n ss:=by
 obtain⟨e,cells,hr,g⟩:=h;refine⟨e,cells,hr.dr hd hl,fun k s hs=>?_⟩;obtain⟨B,m,c,b,d,f,a⟩:=g k s hs;exact⟨B,m,c,b,d,f,a.1,a.2.dr hd hl⟩
theorem spec_l1Word {a:Nat} (h:Rd w R M)(hM:M<=900000000)(ha:a<64)(hq:q<=1000) :
  Calls Tryz.prog 77 #[.pointer (some R),a,q] w (RetSd R (M+q+2) q w):=by
 have c:=h.lt
 go_enter Tryz.func77,Tryz.ntmps77
 go_wp2_with fail
 refine (zU a tM _).mono ?_;rintro e w1 ⟨B,d,rfl,E,hx1⟩;have aa:=zB a 6;have H:=za (fun k (hk:k∈letters a 6)=>(zbi.1 hk).1);have u:=(Reads.af E);have s:=h.ext hx1;clear E h;generalize letters a 6=o at *;go_wp2_with fail
 refine (zx s oM).mono ?_;rintro e U ⟨m,rfl,r,-,I,f⟩;have Q:m<=q:=by have:=r oM;omega
 have z:=u.dr f c;have C:Dr R w U:=hx1.dr.trans f;have g:Hid ((⟨#[]⟩:ByteArray).size+m<=q):=za (by show 0+m<=q;omega);clear r u s f hx1;go_wp2_with fail
 go_loopw [8,9] (fun v i wr=>∃ (x:ByteArray) (j:Nat),v=.string x∧i=.int .i64 j∧j<=m∧Hid (x.size+j<=q)∧Rd wr R (M+1+(m - j))∧Dr R U wr) (fun _ i _=>(intOf i).toNat)
 case atStart=>exact⟨_,m,rfl,rfl,cY _,g,I.more oM,Dr.refl _ _⟩
 case round =>
  clear g;obtain⟨x,j,rfl,rfl,hj,b,hr,F⟩:=hrel
  by_cases O:0<j∧0<o.length
  ·obtain⟨O,V⟩:=O;have G:(j:Int)>0:=oM;have X:(o.length:Int)>0:=oM;go_wp2_with fail
   refine (zx (n:=o.length) hr oM).mono ?_;rintro e w3 ⟨y,rfl,T,-,J,p⟩;have L:y<o.length:=by have:=T oM;omega
   obtain⟨ad,l,rfl,_,_,Z,ab⟩:=((z.dr F c).dr p c).nat L;have S:=H.out l (cX Z.out);clear T;go_wp2_with fail
   refine (zdm (l:=(l:Int)) oM oM).mono ?_;rintro e w4 ⟨t,rfl,ht,D⟩;have g:x.size+t.size<=5000:=oH b.out;go_wp2_with fail
   go_roundw
   case rel=>exact⟨_,j - 1,rfl,gM,oM,za (by rw [ByteArray.size_append];have:=b.out;omega),(J.ext D).more oM,(F.trans p).ext D⟩
   case measure=>simp [intOf];omega
  ·by_cases V:0<j
   ·have G:(j:Int)>0:=oM;have h2:o.length=0:=oM;have Y:¬ ((o.length:Int)>0):=oM;go_wp2_with fail
    go_ret;exact⟨x,rfl,oH b.out,hr.more oM,C.trans F⟩
   ·obtain rfl:j=0:=oM;go_wp2_with fail
    go_ret;exact⟨x,rfl,oH b.out,hr.more oM,C.trans F⟩
theorem spec_l7Trace (h:Rd w R M)(hM:M<=900000000)(hs:zet w lo hi A n ss)(hlo:R<lo)(hq:q<=1000) :
  Calls Tryz.prog 76 #[.pointer (some R),.slice A n c,q] w (RetSd R (M+2*q+2) q w):=by
 have an:=h.lt;have HS:=za (fun W (hW:Dr R w W)=>hs.dr hW hlo);have HP:=za (zab (c:=c) hs);have Y:=za (partsA_cases ss);clear hs
 go_enter Tryz.func76,Tryz.ntmps76
 go_wp2_with fail
 refine HP.out.mono ?_;generalize zaG ss=pa at *;rintro e w1 ⟨rfl,hx1⟩;have F:=h.ext hx1;clear h HP;go_wp2_with fail
 refine (zx F oM).mono ?_;rintro e w2 ⟨u,rfl,E,-,Z,C⟩;have ah:u<=q:=by have:=E oM;omega
 have r:Dr R w w2:=hx1.dr.trans C;have p:Hid ((⟨#[]⟩:ByteArray).size+u<=q):=za (by show 0+u<=q;omega);clear E F C hx1;go_wp2_with fail
 go_loopw [8,9,10,11,12,13] (fun v i _ _ _ _ wr=>∃ (x:ByteArray) (j:Nat),v=.string x∧i=.int .i64 j∧j<=u∧Hid (x.size+j<=q)∧Rd wr R (M+1+(u - j))∧Dr R w2 wr) (fun _ i _ _ _ _ _=>(intOf i).toNat)
 case atStart=>exact⟨_,u,rfl,rfl,cY _,p,Z.more oM,Dr.refl _ _⟩
 case round =>
  clear p;obtain⟨x,j,rfl,rfl,hj,m,hr,T⟩:=hrel
  by_cases h0:0<j∧pa>0
  ·obtain⟨h0,h1⟩:=h0;have Q:(j:Int)>0:=oM;obtain⟨a,X,ha⟩:∃ a:Nat,pa=(a:Int)∧a<64:=by
    rcases Y.out with h|h
    ·exact h
    ·omega
   have am:(a:Int)>0:=oM;subst X;go_wp2_with fail
   refine (zU a tM _).mono ?_;rintro e w3 ⟨B,d,rfl,O,s⟩;have ap:=zB a 6;have U:=za (fun k (hk:k∈letters a 6)=>(zbi.1 hk).1);have H:=(Reads.af O);have S:=hr.lt;clear O;generalize letters a 6=o at *;go_wp2_with fail
   refine (zx (n:=o.length) (hr.ext s) oM).mono ?_;rintro e w4 ⟨y,rfl,hy,L,G,D⟩;have I:=H.dr D S;have f:Dr R w2 w4:=(T.ext s).trans D;have au:y<=6:=by
    rcases Nat.eq_zero_or_pos o.length with h|h
    ·have:=L oM;omega
    ·have:=hy oM;omega
   clear hy L H hr s;go_wp2_with fail
   go_loopw [8,12,13] (fun v iv _ wr=>∃ (i:Nat),v=.string x∧iv=.int .i64 i∧i<=o.length∧Ext w4 wr) (fun _ iv _ _=>o.length - (intOf iv).toNat)
   case atStart=>exact⟨0,rfl,rfl,dD _,cW _⟩
   case round =>
    obtain⟨i,rfl,rfl,hi,hxr⟩:=hrel
    by_cases hlt:i<o.length
    ·have tm:((y:Int)+(i:Int)).tmod (o.length:Int)=(((y+i) % o.length:Nat):Int):=by rw [← Int.natCast_add];rfl
     have V:(y+i) % o.length<o.length:=fX _ oM;generalize (y+i) % o.length=z at *;obtain⟨ad,l,rfl,_,_,hl,aq⟩:=(I.ext hxr).nat V;have ai:=U.out l (cX hl.out);go_wp2_with fail
     refine (zdm (l:=(l:Int)) oM oM).mono ?_;rintro e w5 ⟨t,rfl,ht,J⟩;have p:x.size+t.size<=5000:=oH m.out;have ar:(x++t).size<=x.size+1:=by rw [ByteArray.size_append];omega
     go_wp2_with fail
     refine (zcS (t:=x++t) (HS.out _ (((r.trans f).ext hxr).ext J)) (by rw [ByteArray.size_append];omega)).mono ?_;generalize topB ss (x++t)=b at *;rintro e w6 ⟨rfl,hx6⟩;have g:Ext w4 w6:=(hxr.trans J).trans hx6;cases b
     ·go_wp2_with fail
      go_roundw
      case rel=>exact⟨i+1,rfl,gM,oM,g⟩
      case measure=>simp [intOf];omega
     ·go_wp2_with fail
      go_roundw
      case rel=>exact⟨x++t,j - 1,rfl,gM,oM,za (oH m.out),(G.ext g).more oM,f.ext g⟩
      case measure=>simp [intOf];omega
    ·obtain rfl:i=o.length:=oM;go_wp2_with fail
     go_roundw
     case rel=>exact⟨x,j - 1,rfl,gM,oM,za (oH m.out),(G.ext hxr).more oM,f.ext hxr⟩
     case measure=>simp [intOf];omega
  ·by_cases h1:0<j
   ·have Q:(j:Int)>0:=oM;have h2:¬ (pa>0):=oM;go_wp2_with fail
    go_ret;exact⟨x,rfl,oH m.out,hr.more oM,r.trans T⟩
   ·obtain rfl:j=0:=oM;go_wp2_with fail
    go_ret;exact⟨x,rfl,oH m.out,hr.more oM,r.trans T⟩
end Go.Proofs.YtfcjhpodichpjaaGreatDoor
