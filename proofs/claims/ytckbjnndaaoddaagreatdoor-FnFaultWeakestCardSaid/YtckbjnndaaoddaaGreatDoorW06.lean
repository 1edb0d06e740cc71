/- impl.firstBr -/
import Derived.Test.YtckbjnndaaoddaaGreatDoorW05
set_option maxHeartbeats 8000000
set_option maxRecDepth 100000
namespace Go.Proofs.YtckbjnndaaoddaaGreatDoor
open Go Go.RowKit
open Blk renaming new->dZ
open Bool renaming and_eq_true->dH,false->j1,true->jU
open Ext renaming bl_->eA,refl->cY,x3_->jI
open Int renaming natCast_mul->fW
open List renaming take_of_length_le->dJ
open Nat renaming ne_of_lt->eZ,or_lt_two_pow->eP,pow_le_pow_right->eD
open Go renaming Calls->j6
open Go.Ending renaming returned->j5
open Go.IntKind renaming i64->iX
open Go.Value renaming agg->j2,bool->j7,pointer->kB,slice->fC
open Option renaming none->fV,some->fU
open _root_.Go.Proofs.Tryz renaming prog->j3
variable {hi lo:Nat}{p:Aut}{ss:List Sys}{w:World}
theorem yW06d1 {P:Prop}(h:P:=by
 have Kh10:=h10.cell 0;have Zh10:=h10.frozen 0;refine zb fun K hK=>?_;go_simp;have hx2:=hx0.frm (Frm.setCell w23 g10 0 (.slice UA a.next.length uc)) (fun k hk e=>oH hGh10);have hA2:=hA.set h10 dM (.slice UA a.next.length uc);have hP2:=hP.set h10 dM (.slice UA a.next.length uc);have h102:Blk (w23.setCell g10 (.slice UA a.next.length uc)) g10 148 #[.slice UA a.next.length uc]:=by simpa using h10.ae 0 (.slice UA a.next.length uc)
 have h112:=h11.far (p:=⟨g10,0,none⟩) (by first|exact hne|exact hne.symm) (.slice UA a.next.length uc)
 refine hK.out _ _ ?_;refine pT ?_;clear hA hP h10 h11 Kh10 Zh10 hx0;generalize w23.setCell g10 (.slice UA a.next.length uc)=w24 at *;have hA:=hA2;have hP:=hP2;have h10:=h102;have h11:=h112;have hx0:=hx2;clear hA2 hP2 h102 h112 hx2;have Kh11:=h11.cell 0;have Zh11:=h11.frozen 0;refine zb fun K hK=>?_;go_simp;have hx2:=hx0.frm (Frm.setCell w24 g11 0 (.slice RA p.next.length rc)) (fun k hk e=>oH hGh11);have hA2:=hA.set h11 dM (.slice RA p.next.length rc);have hP2:=hP.set h11 dM (.slice RA p.next.length rc);have h112:Blk (w24.setCell g11 (.slice RA p.next.length rc)) g11 148 #[.slice RA p.next.length rc]:=by simpa using h11.ae 0 (.slice RA p.next.length rc)
 have h102:=h10.far (p:=⟨g11,0,none⟩) (by first|exact hne|exact hne.symm) (.slice RA p.next.length rc)
 refine hK.out _ _ ?_;refine pT ?_;clear hA hP h10 h11 Kh11 Zh11 hx0;generalize w24.setCell g11 (.slice RA p.next.length rc)=w25 at *;have hA:=hA2;have hP:=hP2;have h10:=h102;have h11:=h112;have hx0:=hx2;clear hA2 hP2 h102 h112 hx2;refine zg ?_;go_wp2_with fail
 go_meet;exact⟨g10,g11,UA,RA,uc,rc,rfl,rfl,hx0,h10,h11,hA,hP⟩
 ):P:=h
theorem yW06c1 {P:Prop}(h:P:=by
 refine zb fun K hK=>?_;go_simp;refine (hTP.out _ hx0).mono ?_;rintro e w23 ⟨RA,rc,rfl,hP,hx1⟩;replace hx0:=hx0.trans hx1;replace h10:=h10.ext hx1;replace h11:=h11.ext hx1;replace hA:=hA.ext hx1;clear hx1;refine hK.out _ _ ?_;refine pT ?_;exact yW06d1
 ):P:=h
theorem yW06b1 {P:Prop}(h:P:=by
 refine ze fun K hK=>?_;go_simp;refine (hTA.out _ hx0).mono ?_;rintro e w22 ⟨UA,uc,rfl,hA,hx1⟩;replace hx0:=hx0.trans hx1;replace h10:=h10.ext hx1;replace h11:=h11.ext hx1;clear hx1;refine hK.out _ _ hx0 ?_;refine pT ?_;exact yW06c1
 ):P:=h
theorem yW06c2 {P:Prop}(h:P:=by
 exact yW06d1
 ):P:=h
theorem yW06b3 {P:Prop}(h:P:=by
 refine ze fun K hK=>?_;go_simp;have hne:=Nat.ne_of_lt h11.lt;have hGh10:=hx0.size;have hx1:=(Ext.refl w22).alloc (.cells #[()] 148);replace hx0:=hx0.trans hx1;replace h11:=h11.ext hx1;replace hA:=hA.ext hx1;replace hP:=hP.ext hx1;clear hx1;refine hK.out _ _ hx0 ?_;refine pT ?_;generalize U0:w22.alloc _=w23 at *;have h10:=Ext.bl_ U0;clear U0;generalize w22.heap.size=g10 at *;exact yW06c2
 ):P:=h
theorem yW06b4 {P:Prop}(h:P:=by
 exact yW06c1
 ):P:=h
theorem reads_blk {g:Nat}{t:TypeId}{v:Value}(h:Blk w g t #[v])(h1:lo<=g)(h2:g<hi):Reads w lo hi 1 (fU ⟨g,0,fV⟩) 1 [v]:=
 ⟨rfl,oM,fun _=>⟨_,rfl,h1,h2,fun j u hu=>by
  rw [zad,Nat.zero_add,h.cell]
  simpa using hu⟩⟩
theorem yW06a1 {P:Prop}(h:P:=by
 refine zn (fun K hK=>?_) (fun K hK=>?_)
 ·go_simp;refine (hTA.out _ hx0).mono ?_;rintro e w21 ⟨UA,uc,rfl,hA,hx1⟩;replace hx0:=hx0.trans hx1;replace h11:=h11.ext hx1;clear hx1;refine hK.out _ _ hx0 ?_;refine pT ?_;refine zn (fun K hK=>?_) (fun K hK=>?_)
  ·go_simp;refine (hTP.out _ hx0).mono ?_;rintro e w22 ⟨RA,rc,rfl,hP,hx1⟩;replace hx0:=hx0.trans hx1;replace h11:=h11.ext hx1;replace hA:=hA.ext hx1;clear hx1;refine hK.out _ _ hx0 ?_;refine pT ?_;exact yW06b3
  ·go_simp;have hne:=Nat.ne_of_lt h11.lt;have hGh10:=hx0.size;have hx1:=(Ext.refl w21).alloc (.cells #[()] 148);replace hx0:=hx0.trans hx1;replace h11:=h11.ext hx1;replace hA:=hA.ext hx1;clear hx1;refine hK.out _ _ hx0 ?_;refine pT ?_;generalize U0:w21.alloc _=w22 at *;have h10:=Ext.bl_ U0;clear U0;generalize w21.heap.size=g10 at *;exact yW06b4
 ·go_simp;have hne:=Nat.ne_of_lt h11.lt;have hGh10:=hx0.size;have hx1:=(Ext.refl w20).alloc (.cells #[()] 148);replace hx0:=hx0.trans hx1;replace h11:=h11.ext hx1;clear hx1;refine hK.out _ _ hx0 ?_;refine pT ?_;generalize U0:w20.alloc _=w21 at *;have h10:=Ext.bl_ U0;clear U0;generalize w20.heap.size=g10 at *;exact yW06b1
 ):P:=h
theorem yW06b2 {P:Prop}(h:P:=by
 refine ze fun K hK=>?_;go_simp;have hne:=Nat.ne_of_lt h10.lt;have hGh11:=hx0.size;have hx1:=(Ext.refl w22).alloc (.cells #[()] 148);replace hx0:=hx0.trans hx1;replace h10:=h10.ext hx1;replace hA:=hA.ext hx1;replace hP:=hP.ext hx1;clear hx1;refine hK.out _ _ hx0 ?_;refine pT ?_;generalize U0:w22.alloc _=w23 at *;have h11:=Ext.bl_ U0;clear U0;generalize w22.heap.size=g11 at *;exact yW06c2
 ):P:=h
theorem yW06a2 {P:Prop}(h:P:=by
 refine zn (fun K hK=>?_) (fun K hK=>?_)
 ·go_simp;refine (hTA.out _ hx0).mono ?_;rintro e w21 ⟨UA,uc,rfl,hA,hx1⟩;replace hx0:=hx0.trans hx1;replace h10:=h10.ext hx1;clear hx1;refine hK.out _ _ hx0 ?_;refine pT ?_;refine zn (fun K hK=>?_) (fun K hK=>?_)
  ·go_simp;refine (hTP.out _ hx0).mono ?_;rintro e w22 ⟨RA,rc,rfl,hP,hx1⟩;replace hx0:=hx0.trans hx1;replace h10:=h10.ext hx1;replace hA:=hA.ext hx1;clear hx1;refine hK.out _ _ hx0 ?_;refine pT ?_;exact yW06b2
  ·go_simp;have hne:=Nat.ne_of_lt h10.lt;have hGh11:=hx0.size;have hx1:=(Ext.refl w21).alloc (.cells #[()] 148);replace hx0:=hx0.trans hx1;replace h10:=h10.ext hx1;replace hA:=hA.ext hx1;clear hx1;refine hK.out _ _ hx0 ?_;refine pT ?_;generalize U0:w21.alloc _=w22 at *;have h11:=Ext.bl_ U0;clear U0;generalize w21.heap.size=g11 at *;exact yW06b4
 ·go_simp;have hne:=Nat.ne_of_lt h10.lt;have hGh11:=hx0.size;have hx1:=(Ext.refl w20).alloc (.cells #[()] 148);replace hx0:=hx0.trans hx1;replace h10:=h10.ext hx1;clear hx1;refine hK.out _ _ hx0 ?_;refine pT ?_;generalize U0:w20.alloc _=w21 at *;have h11:=Ext.bl_ U0;clear U0;generalize w20.heap.size=g11 at *;exact yW06b1
 ):P:=h
theorem yW06c3 {P:Prop}(h:P:=by
 refine zb fun K hK=>?_;go_simp;refine (key.out _ hx0 _ _ _ _ _ hI hIL).mono ?_;rintro e w23 ⟨hx1,hcase⟩;have hx2:=hw9.trans (hx0.trans hx1);rcases hcase with ⟨v,rfl,hF⟩|⟨rfl,hF⟩
 ·have hres:=za (show zT w (zce ss a p) [0] (zbO a p) (letters (U|||al) 6) _ w23 from ⟨hx2,Or.inl ⟨v,rfl,hF⟩⟩);refine hK.out _ _ ?_;refine pT ?_;refine uQ ?_;refine zg ?_;go_wp2_with fail
  go_ret2;exact hres.out
 ·have hres:=za (show zT w (zce ss a p) [0] (zbO a p) (letters (U|||al) 6) _ w23 from ⟨hx2,Or.inr ⟨rfl,hF⟩⟩);refine hK.out _ _ ?_;refine pT ?_;refine uQ ?_;refine zg ?_;go_wp2_with fail
  go_ret2;exact hres.out
 ):P:=h
theorem yW06b6 {P:Prop}(h:P:=by
 exact yW06c3
 ):P:=h
theorem yW06a3 {P:Prop}(h:P:=by
 refine hK.out _ _ hx0 ?_;refine pT ?_;refine uQ ?_;refine zn (fun K hK=>?_) (fun K hK=>?_)
 ·go_simp;have hI:=zdo (x:=0) (Blk.new w20 3 #[.int .i64 ((0:Nat):Int)]);have hx1:=(Ext.refl w20).alloc (.cells #[.int .i64 ((0:Nat):Int)] 3);replace hx0:=hx0.trans hx1;clear hx1;refine hK.out _ _ hx0 ?_;refine pT ?_;generalize w20.alloc _=w21 at *;generalize w20.heap.size=g1 at *;refine ze fun K hK=>?_;go_simp;refine (hLT.out w21).mono ?_;rintro e w22 ⟨AL,cL,rfl,hownL,hx1⟩;have hIL:=zaw.own hownL;clear hownL;replace hx0:=hx0.trans hx1;replace hI:=hI.ext hx1;clear hx1;refine hK.out _ _ hx0 ?_;refine pT ?_;exact yW06b6
 ·go_simp;refine (hLT.out w20).mono ?_;rintro e w21 ⟨AL,cL,rfl,hownL,hx1⟩;have hIL:=zaw.own hownL;clear hownL;replace hx0:=hx0.trans hx1;clear hx1;refine hK.out _ _ hx0 ?_;refine pT ?_;refine ze fun K hK=>?_;go_simp;have hI:=zdo (x:=0) (Blk.new w21 3 #[.int .i64 ((0:Nat):Int)]);have hx1:=(Ext.refl w21).alloc (.cells #[.int .i64 ((0:Nat):Int)] 3);replace hx0:=hx0.trans hx1;replace hIL:=hIL.ext hx1;clear hx1;refine hK.out _ _ hx0 ?_;refine pT ?_;generalize w21.alloc _=w22 at *;generalize w21.heap.size=g1 at *;exact yW06b6
 ):P:=h
theorem yW06a4 {P:Prop}(h:P:=by
 refine ze fun K hK=>?_;go_simp;refine hK.out _ _ hx0 ?_;refine pT ?_;refine uQ ?_;exact yW06b1
 ):P:=h
theorem yW06a5 {P:Prop}(h:P:=by
 exact yW06b2
 ):P:=h
theorem yW06a6 {P:Prop}(h:P:=by
 exact yW06b3
 ):P:=h
theorem yW06a7 {P:Prop}(h:P:=by
 exact yW06b4
 ):P:=h
theorem yW06a8 {P:Prop}(h:P:=by
 have Kh12:=h12.cell 0;have Zh12:=h12.frozen 0;refine ze fun K hK=>?_;go_simp;have hx2:=hx0.frm (Frm.setCell w21 g12 0 (.int .i64 (a.next.length:Nat))) (fun k hk e=>oH hGh12);have h122:Blk (w21.setCell g12 (.int .i64 (a.next.length:Nat))) g12 3 #[.int .i64 (a.next.length:Nat)]:=by simpa using h12.ae 0 (.int .i64 (a.next.length:Nat))
 have h132:=h13.far (p:=⟨g12,0,none⟩) (by first|exact hne|exact hne.symm) (.int .i64 (a.next.length:Nat))
 refine hK.out _ _ hx2 ?_;refine pT ?_;clear h12 h13 Kh12 Zh12 hx0;generalize w21.setCell g12 (.int .i64 (a.next.length:Nat))=w22 at *;have h12:=h122;have h13:=h132;have hx0:=hx2;clear h122 h132 hx2;have Kh13:=h13.cell 0;have Zh13:=h13.frozen 0;refine zb fun K hK=>?_;go_simp;have hx2:=hx0.frm (Frm.setCell w22 g13 0 (.int .i64 (p.next.length:Nat))) (fun k hk e=>oH hGh13);have h132:Blk (w22.setCell g13 (.int .i64 (p.next.length:Nat))) g13 3 #[.int .i64 (p.next.length:Nat)]:=by simpa using h13.ae 0 (.int .i64 (p.next.length:Nat))
 have h122:=h12.far (p:=⟨g13,0,none⟩) (by first|exact hne|exact hne.symm) (.int .i64 (p.next.length:Nat))
 refine hK.out _ _ ?_;refine pT ?_;clear h12 h13 Kh13 Zh13 hx0;generalize w22.setCell g13 (.int .i64 (p.next.length:Nat))=w23 at *;have h12:=h122;have h13:=h132;have hx0:=hx2;clear h122 h132 hx2;refine zg ?_;go_wp2_with fail
 go_meet;exact⟨g12,g13,rfl,rfl,hx0,h12,h13⟩
 ):P:=h
theorem yW06b5 {P:Prop}(h:P:=by
 refine hK.out _ _ hx0 ?_;refine pT ?_;refine uQ ?_;refine ze fun K hK=>?_;go_simp;refine (hLT.out w21).mono ?_;rintro e w22 ⟨AL,cL,rfl,hownL,hx1⟩;have hIL:=zaw.own hownL;clear hownL;replace hx0:=hx0.trans hx1;replace hI:=hI.ext hx1;clear hx1;refine hK.out _ _ hx0 ?_;refine pT ?_;exact yW06c3
 ):P:=h
theorem yW06a9 {P:Prop}(h:P:=by
 refine ze fun K hK=>?_;go_simp;refine (hSZ.out _ hx0).mono (mQ fun w21 hx1=>?_);replace hx0:=hx0.trans hx1;replace hI:=hI.ext hx1;clear hx1;exact yW06b5
 ):P:=h
theorem yW06a10 {P:Prop}(h:P:=by
 refine ze fun K hK=>?_;go_simp;exact yW06b5
 ):P:=h
theorem zfa {k c:Nat}{A:Option Addr}{C:Option Addr}{m2 d2:Nat}{C':Option Addr}{m2' d2' lo2 hi2:Nat}  
  (h:zhl w lo hi A k ss) (hap:zE ss=jU) (hT:Tab w) (hP0:zJ w lo2 hi2 C m2 C' m2' p) (hp:zj p=jU) :
  j6 j3 84 #[fC A k c,kB fV,j2 #[p.al,fC C m2 d2,fC C' m2' d2']] w (zT w (zce ss free p) [0] (zbO free p) (letters (zG ss|||free.al.toNat) 6)):=by
 have hv:=zdI;obtain⟨a,aw⟩:∃ a,Hid (a=free):=⟨_,rfl⟩;rw [<- aw.out] at hv ⊢;have ae:∀ s∈ss,zk s=jU:=by
  unfold zE at hap;simp only [dH,List.all_eq_true] at hap;exact hap.2.2
 have a7:k<=3:=by
  unfold zE at hap;simp only [dH,decide_eq_true_eq] at hap;have:=h.1;omega
 have F:=za (fun (s:Sys) (hs:s∈ss)=>zcj (ae s hs));have a5:=za (fun (s:Sys) (hs:s∈ss)=>show Few 16 s.edges from by
  obtain⟨q,_,_,hq,hf⟩:=zdg (ae s hs);exact fun e he=>by have:=hf e he;omega)
 have hU:zG ss<=63:=by
  have key:∀ l:List Sys,(∀ s∈l,zk s=jU)->zG l<=63:=by
   intro l hl;have:∀ n,zG (l.take n)<=63:=by
    intro n
    induction n with
    |zero=>simp [zG]
    |succ n ih =>
     rcases Nat.lt_or_ge n l.length with Z|Z
     ·rw [zdd (List.getElem?_eq_getElem Z)];have:=zab (hl _ (List.getElem_mem Z));have:=eP (n:=6) (x:=zG (l.take n)) (y:=l[n].al.toNat) oM oM;omega
     ·rw [dJ oM];rw [dJ Z] at ih;exact ih
   have h2:=this l.length;rwa [List.take_length] at h2
  exact key ss ae
 have br:=(zl hv).1;obtain⟨al,J⟩:∃ al:Nat,Hid (a.al=al):=⟨a.al.toNat,by unfold Hid;omega⟩;have bR:al<=63:=oH J.out;have bA:=za (show zbW ss=(zG ss:Int) by unfold zbW;rw [hap];rfl);have a3:=za (show a.al.toNat=al by have:=J.out;omega);have bS:=za (show 0<=p.al/\p.al<=63 from (zl hp).1);rw [a3.out];have HS:=za (fun W (hW:Ext w W)=>h.ext hW);have HT:=za (fun W (hW:Ext w W)=>hT.ext hW);have HP:=za (fun W (hW:Ext w W)=>hP0.ext hW);have Hv:=za hv;have Hp:=za hp;generalize hUe:zG ss=U at *;have HU:=za hUe;clear hUe h hT hP0 hv hp hap ae br
 go_enter Tryz.func84,Tryz.ntmps84
 go_upto_region 1 with fail
 generalize U0:(w.alloc _).alloc _=w2 at *;obtain⟨O,b4,b5⟩:=Ext.x2_ U0;clear U0;go_upto_region 2 with (go_at_call 66;refine (zfQ (HS.out _ O) a5.out oM).mono ?_;rintro e w3 ⟨M,dm,rfl,a9,ag⟩)
 have bE:=O.trans ag;have b8:=dZ w3 108 #[fC A k c,fC M k dm];have T:=ag.alloc (.cells #[fC A k c,fC M k dm] 108);have ap:=a9.ext ((cY w3).alloc (.cells #[fC A k c,fC M k dm] 108));have aj:w2.heap.size<=w3.heap.size:=ag.size;generalize hg8:w3.heap.size=g8 at *;clear a9 hg8;generalize w3.alloc _=w4 at *;have aA:=O.trans T;clear bE ag;go_upto_region 3 with (go_at_call 86;refine (zdk (HS.out _ aA)).mono ?_;rw [bA.out];rintro e f ⟨rfl,v⟩)
 have Y:=b4.ext (T.trans v);have aN:=b5.ext (T.trans v);have aQ:=b8.ext v;have aq:=ap.ext v;have Q:=aA.trans v;have bd:=(T.trans v).size;have bx:=b5.lt;have a6:=b8.lt;have be:w2.heap.size<=g8:=aj;have k4:=Y.cell 0;have z4:=Y.frozen 0;clear T v b4 b5 b8 ap O aA;go_upto_region 4 with fail
 clear k4 z4;have ad:=dZ f 110 #[()];have a8:=(cY f).alloc (.cells #[()] 110);have bb:(f.alloc (.cells #[()] 110)).heap.size=f.heap.size+1:=sM;have L:=dZ (f.alloc (.cells #[()] 110)) 4 #[j7 jU];rw [bb] at L;have ay:=(cY (f.alloc (.cells #[()] 110))).alloc (.cells #[j7 jU] 4);have bc:((f.alloc (.cells #[()] 110)).alloc (.cells #[j7 jU] 4)).heap.size=f.heap.size+1+1:=sM;have az:=dZ ((f.alloc (.cells #[()] 110)).alloc (.cells #[j7 jU] 4)) 27 #[(0:Int),fC (fU f.heap.size) 1 1,fC (fU ⟨f.heap.size+1,0,fV⟩) 1 1];rw [bc] at az;have ab:=(cY ((f.alloc (.cells #[()] 110)).alloc (.cells #[j7 jU] 4))).alloc (.cells #[(0:Int),fC (fU f.heap.size) 1 1,fC (fU ⟨f.heap.size+1,0,fV⟩) 1 1] 27);replace ad:=ad.ext (ay.trans ab);replace L:=L.ext ab;have hm:=a8.trans (ay.trans ab);have I:=Y.ext hm;have aO:=aN.ext hm;have aR:=aQ.ext hm;have ar:=aq.ext hm;have k4:=I.cell 0;have z4:=I.frozen 0;have af:=Q.trans hm;clear a8 ay ab hm bb bc Y aN aQ aq;go_upto_region 5 with fail
 have bt:w.heap.size<f.heap.size:=oH Q.size;generalize f.heap.size=V at *;generalize ((f.alloc _).alloc _).alloc _=w6 at *;have g:=Frm.setCell w6 w.heap.size 0 (.pointer (fU ⟨V+1+1,0,fV⟩));have aL:Blk (w6.setCell w.heap.size (.pointer (fU ⟨V+1+1,0,fV⟩))) w.heap.size 173 #[kB (fU ⟨V+1+1,0,fV⟩)]:=by simpa using I.ae 0 (.pointer (fU ⟨V+1+1,0,fV⟩))
 have aP:=aO.frm g oM;have aS:=aR.frm g oM;have am:=ad.frm g oM;have an:=L.frm g oM;have ao:=az.frm g oM;have aB:=af.frm g (fun k hk e=>oM);have au:PtAt (w6.setCell w.heap.size (.pointer (fU ⟨V+1+1,0,fV⟩))) lo hi A k w2.heap.size g8 M ss:=by
  obtain⟨bs,hr,bz⟩:=ar.mov;exact⟨HS.out _ aB,bs,hr.frm g (fun k Z h2 e=>oM),bz.frm g (fun b cs hB e=>by
   subst e;exact absurd rfl (hB.ne I dM))⟩
 clear ad L az I aO aR ar g k4 z4;generalize w6.setCell w.heap.size (.pointer (fU ⟨V+1+1,0,fV⟩))=f at *;obtain⟨ga,B,m1,d1,B',G,E,aC,ax,ai,aX,aT⟩:∃ (ga:Nat) (B:Option Addr) (m1 d1:Nat) (B':Option Addr) (G E aC ax:Nat),Blk f w.heap.size 173 #[kB (fU ga)]/\Blk f ga 27 #[a.al,fC B m1 d1,fC B' G E]/\zJ f aC ax B m1 B' G a:=by
  refine⟨V+1+1,fU ⟨V,0,fV⟩,1,1,fU ⟨V+1,0,fV⟩,1,1,V,V+2,aL,by rw [aw.out];exact ao,?_⟩;rw [aw.out];refine⟨⟨rfl,[fC fV 0 0],reads_blk am (Nat.le_refl _) oM,rfl,fun i row l hr hl=>?_⟩,rfl,reads_blk an oM oM⟩;cases i with
  |zero =>
   simp at hr;simp [free] at hl;subst hr;subst hl;exact⟨fV,0,rfl,Reads.nil⟩
  |succ i=>simp at hr
 have aU:=za (fun W (hW:Ext f W)=>ai.ext hW);have aV:=za (fun W (hW:Ext f W)=>aP.ext hW);have bo:=za (fun W (hW:Ext f W)=>aS.ext hW);have a0:=za (fun W (hW:Ext f W)=>au.ext hW);have H:=za (fun W (hW:Ext f W)=>aX.ext hW);have aJ:=za (fun W (hW:Ext f W)=>aT.ext hW);have bg:=aB;clear aB af Q am an ao aL aP aS au aX aT ai bt a6 aj be bx bd
 go_cut [10,11] (fun v10 v11 wx=>∃ (g10 g11:Nat) (UA RA:Option Addr) (uc rc:Nat),v10=.pointer (fU g10)/\v11=.pointer (fU g11)/\Ext f wx/\Blk wx g10 148 #[fC UA a.next.length uc]/\Blk wx g11 148 #[fC RA p.next.length rc]/\TbO wx UA uc a/\TbO wx RA rc p)
 case first =>
  have c4:∀ W,Ext f W->W.cell? w.heap.size=fU (.pointer (fU ga)):=fun W hW=>by rw [(aU.out W hW).cell];rfl
  have ca:∀ W,Ext f W->∀ j,W.cell? ⟨ga,j,fV⟩=#[Value.int iX a.al,fC B m1 d1,fC B' G E][j]?:=fun W hW=>(H.out W hW).cell;have c5:∀ W,Ext f W->∀ j,W.cell? ⟨w.heap.size+1,j,fV⟩=#[Value.int iX p.al,fC C m2 d2,fC C' m2' d2'][j]?:=fun W hW=>(aV.out W hW).cell;have hTA:=za (fun W (hW:Ext f W)=>zdm (d:=d1) (d':=E) (aJ.out W hW) Hv.out);have hTP:=za (fun W (hW:Ext f W)=>zdm (d:=d2) (d':=d2') (HP.out W (bg.trans hW)) Hp.out);have R:=cY f;refine uR (fun X=>Ext f X) [5,8,9] (zy.app [0,4] (zy.three 1 (zy.app [2] (zy.three 3 (zy.three 5 (zy.two 6 (zy.of [7,8,9]) 7 (zy.of [6,8,9])) 6 (zy.two 5 (zy.of [7,8,9]) 7 (zy.of [5,8,9])) 7 (zy.two 5 (zy.of [6,8,9]) 6 (zy.of [5,8,9]))) 6 (zy.two 3 (zy.two 5 (zy.of [7,8,9]) 7 (zy.of [5,8,9])) 7 (zy.of [3,5,8,9])) 7 (zy.two 3 (zy.two 5 (zy.of [6,8,9]) 6 (zy.of [5,8,9])) 6 (zy.of [3,5,8,9])))) 6 (zy.two 1 (zy.app [2] (zy.two 3 (zy.two 5 (zy.of [7,8,9]) 7 (zy.of [5,8,9])) 7 (zy.of [3,5,8,9]))) 7 (zy.of [1,2,3,5,8,9])) 7 (zy.two 1 (zy.app [2] (zy.two 3 (zy.two 5 (zy.of [6,8,9]) 6 (zy.of [5,8,9])) 6 (zy.of [3,5,8,9]))) 6 (zy.of [1,2,3,5,8,9])))) ?_;refine uQ ?_;have hx0:Ext f f.drew:=R.drew;generalize f.drew=o at *;refine uQ ?_;refine zaQ (fun K hK=>?_) (fun K hK=>?_) (fun K hK=>?_)
  ·go_simp;refine hK.out _ _ hx0 ?_;refine pT ?_;refine uQ ?_;refine zaQ (fun K hK=>?_) (fun K hK=>?_) (fun K hK=>?_)
   ·go_simp;refine (hTA.out _ hx0).mono ?_;rintro e w20 ⟨UA,uc,rfl,hA,hx1⟩;replace hx0:=hx0.trans hx1;clear hx1;refine hK.out _ _ hx0 ?_;refine pT ?_;refine zaQ (fun K hK=>?_) (fun K hK=>?_) (fun K hK=>?_)
    ·go_simp;refine (hTP.out _ hx0).mono ?_;rintro e w21 ⟨RA,rc,rfl,hP,hx1⟩;replace hx0:=hx0.trans hx1;replace hA:=hA.ext hx1;clear hx1;refine hK.out _ _ hx0 ?_;refine pT ?_;refine zn (fun K hK=>?_) (fun K hK=>?_)
     ·go_simp;have hGh10:=hx0.size;have hx1:=(cY w21).alloc (.cells #[()] 148);replace hx0:=hx0.trans hx1;replace hA:=hA.ext hx1;replace hP:=hP.ext hx1;clear hx1;refine hK.out _ _ hx0 ?_;refine pT ?_;generalize U0:w21.alloc _=w22 at *;have h10:=eA U0;clear U0;generalize w21.heap.size=g10 at *;exact yW06a5
     ·go_simp;have hGh11:=hx0.size;have hx1:=(cY w21).alloc (.cells #[()] 148);replace hx0:=hx0.trans hx1;replace hA:=hA.ext hx1;replace hP:=hP.ext hx1;clear hx1;refine hK.out _ _ hx0 ?_;refine pT ?_;generalize U0:w21.alloc _=w22 at *;have h11:=eA U0;clear U0;generalize w21.heap.size=g11 at *;exact yW06a6
    ·go_simp;have hGh10:=hx0.size;have hx1:=(cY w20).alloc (.cells #[()] 148);replace hx0:=hx0.trans hx1;replace hA:=hA.ext hx1;clear hx1;refine hK.out _ _ hx0 ?_;refine pT ?_;generalize U0:w20.alloc _=w21 at *;have h10:=eA U0;clear U0;generalize w20.heap.size=g10 at *;refine zn (fun K hK=>?_) (fun K hK=>?_)
     ·go_simp;refine (hTP.out _ hx0).mono ?_;rintro e w22 ⟨RA,rc,rfl,hP,hx1⟩;replace hx0:=hx0.trans hx1;replace h10:=h10.ext hx1;replace hA:=hA.ext hx1;clear hx1;refine hK.out _ _ hx0 ?_;refine pT ?_;exact yW06a5
     ·go_simp;have hne:=eZ h10.lt;have hGh11:=hx0.size;have hx1:=(cY w21).alloc (.cells #[()] 148);replace hx0:=hx0.trans hx1;replace h10:=h10.ext hx1;replace hA:=hA.ext hx1;clear hx1;refine hK.out _ _ hx0 ?_;refine pT ?_;generalize U0:w21.alloc _=w22 at *;have h11:=eA U0;clear U0;generalize w21.heap.size=g11 at *;exact yW06a7
    ·go_simp;have hGh11:=hx0.size;have hx1:=(cY w20).alloc (.cells #[()] 148);replace hx0:=hx0.trans hx1;replace hA:=hA.ext hx1;clear hx1;refine hK.out _ _ hx0 ?_;refine pT ?_;generalize U0:w20.alloc _=w21 at *;have h11:=eA U0;clear U0;generalize w20.heap.size=g11 at *;refine zn (fun K hK=>?_) (fun K hK=>?_)
     ·go_simp;refine (hTP.out _ hx0).mono ?_;rintro e w22 ⟨RA,rc,rfl,hP,hx1⟩;replace hx0:=hx0.trans hx1;replace h11:=h11.ext hx1;replace hA:=hA.ext hx1;clear hx1;refine hK.out _ _ hx0 ?_;refine pT ?_;exact yW06a6
     ·go_simp;have hne:=eZ h11.lt;have hGh10:=hx0.size;have hx1:=(cY w21).alloc (.cells #[()] 148);replace hx0:=hx0.trans hx1;replace h11:=h11.ext hx1;replace hA:=hA.ext hx1;clear hx1;refine hK.out _ _ hx0 ?_;refine pT ?_;generalize U0:w21.alloc _=w22 at *;have h10:=eA U0;clear U0;generalize w21.heap.size=g10 at *;exact yW06a7
   ·go_simp;have hGh10:=hx0.size;have hx1:=(cY o).alloc (.cells #[()] 148);replace hx0:=hx0.trans hx1;clear hx1;refine hK.out _ _ hx0 ?_;refine pT ?_;generalize U0:o.alloc _=w20 at *;have h10:=eA U0;clear U0;generalize o.heap.size=g10 at *;exact yW06a2
   ·go_simp;have hGh11:=hx0.size;have hx1:=(cY o).alloc (.cells #[()] 148);replace hx0:=hx0.trans hx1;clear hx1;refine hK.out _ _ hx0 ?_;refine pT ?_;generalize U0:o.alloc _=w20 at *;have h11:=eA U0;clear U0;generalize o.heap.size=g11 at *;exact yW06a1
  ·go_simp;have hGh10:=hx0.size;have hx1:=(cY o).alloc (.cells #[()] 148);replace hx0:=hx0.trans hx1;clear hx1;refine hK.out _ _ hx0 ?_;refine pT ?_;generalize U0:o.alloc _=w20 at *;have h10:=eA U0;clear U0;generalize o.heap.size=g10 at *;refine zn (fun K hK=>?_) (fun K hK=>?_)
   ·go_simp;refine hK.out _ _ hx0 ?_;refine pT ?_;refine uQ ?_;exact yW06a2
   ·go_simp;have hne:=eZ h10.lt;have hGh11:=hx0.size;have hx1:=(cY w20).alloc (.cells #[()] 148);replace hx0:=hx0.trans hx1;replace h10:=h10.ext hx1;clear hx1;refine hK.out _ _ hx0 ?_;refine pT ?_;generalize U0:w20.alloc _=w21 at *;have h11:=eA U0;clear U0;generalize w20.heap.size=g11 at *;exact yW06a4
  ·go_simp;have hGh11:=hx0.size;have hx1:=(cY o).alloc (.cells #[()] 148);replace hx0:=hx0.trans hx1;clear hx1;refine hK.out _ _ hx0 ?_;refine pT ?_;generalize U0:o.alloc _=w20 at *;have h11:=eA U0;clear U0;generalize o.heap.size=g11 at *;refine zn (fun K hK=>?_) (fun K hK=>?_)
   ·go_simp;refine hK.out _ _ hx0 ?_;refine pT ?_;refine uQ ?_;exact yW06a1
   ·go_simp;have hne:=eZ h11.lt;have hGh10:=hx0.size;have hx1:=(cY w20).alloc (.cells #[()] 148);replace hx0:=hx0.trans hx1;replace h11:=h11.ext hx1;clear hx1;refine hK.out _ _ hx0 ?_;refine pT ?_;generalize U0:w20.alloc _=w21 at *;have h10:=eA U0;clear U0;generalize w20.heap.size=g10 at *;exact yW06a4
 case rest =>
  obtain⟨g10,g11,UA,RA,uc,rc,rfl,rfl,t,h10,h11,hA,hP⟩:=hcut;have aY:=za (fun W (hW:Ext wc W)=>h10.ext hW);have aZ:=za (fun W (hW:Ext wc W)=>h11.ext hW);have af:=bg.trans t;go_upto_region 6 with fail
  go_cut [12,13] (fun v12 v13 wx=>∃ (g12 g13:Nat),v12=.pointer (fU g12)/\v13=.pointer (fU g13)/\Ext wc wx/\Blk wx g12 3 #[.int iX (a.next.length:Nat)]/\Blk wx g13 3 #[.int iX (p.next.length:Nat)])
  case first =>
   have bX:∀ W,Ext wc W->W.cell? g10=fU (fC UA a.next.length uc):=fun W hW=>by rw [(aY.out W hW).cell];rfl
   have bY:∀ W,Ext wc W->W.cell? g11=fU (fC RA p.next.length rc):=fun W hW=>by rw [(aZ.out W hW).cell];rfl
   have R:=cY wc;clear h10 h11 hA hP;refine uR (fun X=>Ext wc X) [7] (zy.app [0,1,2,3] (zy.two 4 (zy.of [5,6,7]) 5 (zy.of [4,6,7]))) ?_;refine uQ ?_;have hx0:Ext wc wc.drew:=R.drew;generalize wc.drew=o at *;refine uQ ?_;refine zn (fun K hK=>?_) (fun K hK=>?_)
   ·go_simp;have hGh12:=hx0.size;have hx1:=(cY o).alloc (.cells #[(0:Int)] 3);replace hx0:=hx0.trans hx1;clear hx1;refine hK.out _ _ hx0 ?_;refine pT ?_;generalize U0:o.alloc _=w20 at *;have h12:=eA U0;clear U0;generalize o.heap.size=g12 at *;refine ze fun K hK=>?_;go_simp;have hne:=eZ h12.lt;have hGh13:=hx0.size;have hx1:=(cY w20).alloc (.cells #[(0:Int)] 3);replace hx0:=hx0.trans hx1;replace h12:=h12.ext hx1;clear hx1;refine hK.out _ _ hx0 ?_;refine pT ?_;generalize U0:w20.alloc _=w21 at *;have h13:=eA U0;clear U0;generalize w20.heap.size=g13 at *;exact yW06a8
   ·go_simp;have hGh13:=hx0.size;have hx1:=(cY o).alloc (.cells #[(0:Int)] 3);replace hx0:=hx0.trans hx1;clear hx1;refine hK.out _ _ hx0 ?_;refine pT ?_;generalize U0:o.alloc _=w20 at *;have h13:=eA U0;clear U0;generalize o.heap.size=g13 at *;refine ze fun K hK=>?_;go_simp;have hne:=eZ h13.lt;have hGh12:=hx0.size;have hx1:=(cY w20).alloc (.cells #[(0:Int)] 3);replace hx0:=hx0.trans hx1;replace h13:=h13.ext hx1;clear hx1;refine hK.out _ _ hx0 ?_;refine pT ?_;generalize U0:w20.alloc _=w21 at *;have h12:=eA U0;clear U0;generalize w20.heap.size=g12 at *;exact yW06a8
  case rest =>
   obtain⟨g12,g13,rfl,rfl,r,h12,h13⟩:=hcut;rename World=>w7
   have hw9:=af.trans r;have hC:BCaps w7 g8 g10 g11 g12 g13 A M UA RA k c dm uc rc ss a p:=by
    obtain⟨bG,bu,bD⟩:=hA.at_;obtain⟨bH,bw,bC⟩:=hP.at_;exact⟨bo.out _ (t.trans r),h10.ext r,h11.ext r,h12,h13,⟨_,_,_,_,a0.out _ (t.trans r)⟩,⟨bG,bu,bD.ext r⟩,⟨bH,bw,bC.ext r⟩⟩
   have av:GCaps w7 w.heap.size ga (w.heap.size+1) g12 g13 a p:=⟨aU.out _ (t.trans r),⟨B,m1,d1,B',G,E,aC,ax,H.out _ (t.trans r),aJ.out _ (t.trans r)⟩,⟨C,m2,d2,C',m2',d2',lo2,hi2,aV.out _ (t.trans r),HP.out _ hw9⟩,h12,h13⟩;obtain⟨N,hN⟩:∃ N:Nat,Hid (zH (zbh ss [a,p])=N):=⟨_,rfl⟩;obtain⟨⟨_,bK⟩,⟨_,bI⟩⟩:=And.intro (zl Hv.out).2.1 (zl Hp.out).2.1;obtain⟨⟨n1,_⟩,⟨bJ,_⟩⟩:=And.intro (zl Hv.out).2.1 (zl Hp.out).2.1;obtain⟨S,hS⟩:∃ S:Nat,Hid (zH (ss.map zdY)=S):=⟨_,rfl⟩;have a1:1<=S/\S<=4096:=by
    rw [<- hS.out];refine⟨zeg F.out,Nat.le_trans (zdq F.out) ?_⟩;have:=(HS.out w (cY _)).1
    calc 16 ^ ss.length<=16 ^ 3:=eD oM oM
     _=4096:=dM
   have aa:S*a.next.length*p.next.length=N:=by
    rw [<- hN.out,<- hS.out,show zbh ss [a,p]=ss.map zdY++[zbz a,zbz p] from rfl,zbX];simp [zH,zaz,zbz,Nat.mul_assoc]
   have a2:S*a.next.length<=4096*12:=Nat.mul_le_mul a1.2 bK;have bQ:N<=4096*12*12:=by rw [<- aa];exact Nat.mul_le_mul a2 bI
   have b3:1<=N:=by rw [<- aa];exact Nat.mul_pos (Nat.mul_pos a1.1 n1) bJ
   obtain⟨sn,bf⟩:∃ z:Nat,Hid (S*a.next.length=z):=⟨_,rfl⟩;rw [bf.out] at aa a2;have bT:(S:Int)*(a.next.length:Int)=(sn:Int):=by rw [<- bf.out];exact (fW S _).symm
   have b6:(sn:Int)*(p.next.length:Int)=(N:Int):=by rw [<- aa];exact (fW sn _).symm
   have Hd:=za (show ∀ x l,x<N->l<6->∀ y∈zce ss a p x l,y<N from fun x l _ hl y hy=>by
    rw [zdj] at hy;rw [<- hN.out];refine ziU (fun mm hmm=>?_) hl y hy;rcases List.mem_append.1 hmm with Z|Z
    ·obtain⟨s,bB,rfl⟩:=List.mem_map.1 Z;exact zeD (F.out s bB)
    ·obtain⟨b,a4,rfl⟩:=List.mem_map.1 Z;simp at a4;rcases a4 with rfl|rfl
     ·exact zbA Hv.out
     ·exact zbA Hp.out)
   have bl:=za (show ∀ x l,(zce ss a p x l).length<=4096 from fun x l=>by
    unfold zce;rw [List.length_map];refine Nat.le_trans (nx_len F.out _ l) ?_;have:=(HS.out w (cY _)).1
    calc 16 ^ ss.length<=16 ^ 3:=eD oM oM
     _=4096:=by decide)
   have u:=za (zgC (U|||al));have key:=za (fun W (hW:Ext w7 W) A1 c1 AL q' cL (hA1:zaw W A1 1 [0]) (hL:zaw W AL q' (letters (U|||al) 6))=>zfK (w:=W) (N:=N) (kn:=173) (kg:=174) (m:=1) (c:=c1) (cL:=cL)
    (capn:=#[kB (fU g10),kB (fU g13),kB (fU g12),kB (fU g11),kB (fU g8)])
    (capg:=#[kB (fU w.heap.size),kB (fU g13),kB (fU g12),kB (fU ⟨w.heap.size+1,0,fV⟩)])
    (goal:=zbO a p) (d:=zce ss a p) (D:=4096) hA1 (fun n hn=>by simp at hn;omega) oM hL u.out oM oM (fun args W=>kM) (fun args W=>kM)
    (fun W' hW' n hn=>brk_goal (av.ext (hW.trans hW')) Hv.out Hp.out oM)
    (fun n l hn hl=>⟨bl.out n l,Hd.out n l hn (u.out.1 l hl)⟩)
    (fun W' hW' n l hn hl base A m c xs hb0 hb hm zkh=>brk_next (hC.ext hW) (HT.out _ (hw9.trans hW)) hW' F.out a7 Hv.out Hp.out (by rw [hN.out];exact hn) (u.out.1 l hl) hb0 hb hm zkh))
   have hSZ:=za (show ∀ W,Ext w7 W->j6 j3 176 #[j2 #[fC A k c,fC M k dm]] W fun e w'=>e=j5 (.int iX (S:Nat))/\Ext W w' from fun W hW=>by
    have:=ziT (c:=c) (dm:=dm) (a0.out W ((t.trans r).trans hW)) F.out a7;rw [hS.out] at this;exact this)
   have hLT:=za (fun W=>zaf (U|||al) (by have:=eP (n:=6) (x:=U) (y:=al) oM oM;unfold Sm;omega) W);have b9:bits .or iX (U:Int) (al:Int)=((U|||al:Nat):Int):=zcd tM tM;have c8:=fun W (hW:Ext w7 W)=>(hC.h8.ext hW).cell;have bZ:∀ W,Ext w7 W->W.cell? g12=fU (.int iX (a.next.length:Nat)):=fun W hW=>by rw [(hC.h12.ext hW).cell];rfl
   have b0:∀ W,Ext w7 W->W.cell? g13=fU (.int iX (p.next.length:Nat)):=fun W hW=>by rw [(hC.h13.ext hW).cell];rfl
   have c4:∀ W,Ext w7 W->W.cell? w.heap.size=fU (.pointer (fU ga)):=fun W hW=>by rw [(av.h4.ext hW).cell];rfl
   have ca:∀ W,Ext w7 W->∀ j,W.cell? ⟨ga,j,fV⟩=#[Value.int iX (al:Nat),fC B m1 d1,fC B' G E][j]?:=fun W hW=>by
    have:=(H.out W ((t.trans r).trans hW)).cell;rw [J.out] at this;exact this
   have cb:IntKind.i64.wrap (sn:Int)=(sn:Int):=zgU sn oM;have O:IntKind.i64.wrap (N:Int)=(N:Int):=zgU N oM;have R:=cY w7;clear hC av h10 h11 h12 h13 hA hP;go_upto_region 9 with fail
   refine uR (fun X=>Ext w7 X) [16] (zy.app [0,2,4,7,8,14,15] (zy.three 1 (zy.app [3,5] (zy.two 6 (zy.of [9,10,11,12,13,16,17,18,19,20]) 9 (zy.app [10,11,12] (zy.two 6 (zy.of [13,16,17,18,19,20]) 13 (zy.of [6,16,17,18,19,20]))))) 6 (zy.two 1 (zy.of [3,5,9,10,11,12,13,16,17,18,19,20]) 9 (zy.of [10,11,12,1,3,5,13,16,17,18,19,20])) 9 (zy.app [10,11,12] (zy.two 1 (zy.app [3,5] (zy.two 6 (zy.of [13,16,17,18,19,20]) 13 (zy.of [6,16,17,18,19,20]))) 6 (zy.of [1,3,5,13,16,17,18,19,20]))))) ?_;refine uQ ?_;have hx0:Ext w7 w7.drew:=R.drew;generalize w7.drew=o at *;refine uQ ?_;refine zaQ (fun K hK=>?_) (fun K hK=>?_) (fun K hK=>?_)
   ·go_simp;refine (hSZ.out _ hx0).mono (mQ fun w20 hx1=>?_);replace hx0:=hx0.trans hx1;clear hx1;refine hK.out _ _ hx0 ?_;refine pT ?_;refine uQ ?_;refine zn (fun K hK=>?_) (fun K hK=>?_)
    ·go_simp;have hI:=zdo (x:=0) (dZ w20 3 #[.int iX ((0:Nat):Int)]);have hx1:=(cY w20).alloc (.cells #[.int iX ((0:Nat):Int)] 3);replace hx0:=hx0.trans hx1;clear hx1;refine hK.out _ _ hx0 ?_;refine pT ?_;generalize w20.alloc _=w21 at *;generalize w20.heap.size=g1 at *;exact yW06a10
    ·go_simp;exact yW06a3
   ·go_simp;have hI:=zdo (x:=0) (dZ o 3 #[.int iX ((0:Nat):Int)]);have hx1:=(cY o).alloc (.cells #[.int iX ((0:Nat):Int)] 3);replace hx0:=hx0.trans hx1;clear hx1;refine hK.out _ _ hx0 ?_;refine pT ?_;generalize o.alloc _=w20 at *;generalize o.heap.size=g1 at *;refine zn (fun K hK=>?_) (fun K hK=>?_)
    ·go_simp;refine (hSZ.out _ hx0).mono (mQ fun w21 hx1=>?_);replace hx0:=hx0.trans hx1;replace hI:=hI.ext hx1;clear hx1;refine hK.out _ _ hx0 ?_;refine pT ?_;refine uQ ?_;exact yW06a10
    ·go_simp;refine hK.out _ _ hx0 ?_;refine pT ?_;refine uQ ?_;exact yW06a9
   ·go_simp;refine hK.out _ _ hx0 ?_;refine pT ?_;refine uQ ?_;refine zn (fun K hK=>?_) (fun K hK=>?_)
    ·go_simp;refine (hSZ.out _ hx0).mono (mQ fun w20 hx1=>?_);replace hx0:=hx0.trans hx1;clear hx1;exact yW06a3
    ·go_simp;have hI:=zdo (x:=0) (dZ o 3 #[.int iX ((0:Nat):Int)]);have hx1:=(cY o).alloc (.cells #[.int iX ((0:Nat):Int)] 3);replace hx0:=hx0.trans hx1;clear hx1;refine hK.out _ _ hx0 ?_;refine pT ?_;generalize o.alloc _=w20 at *;generalize o.heap.size=g1 at *;exact yW06a9
section
variable {lo hi n c:Nat}{A:Option Addr}{s:Sys}{lo1 hi1 m1 d1 m1' d1':Nat}{B B':Option Addr}{a:Aut}{lo2 hi2 m2 d2 m2' d2':Nat}{C C':Option Addr}{p:Aut}{w:World}
theorem zcW (h:zU w lo hi A n s)(ha:zJ w lo1 hi1 B m1 B' m1' a)(hp:zJ w lo2 hi2 C m2 C' m2' p)(hT:Tab w) :
  j6 j3 52 #[j2 #[s.al,s.st,fC A n c],j2 #[a.al,fC B m1 d1,fC B' m1' d1'],j2 #[p.al,fC C m2 d2,fC C' m2' d2']] w fun e w'=>e=j5 (.tuple #[.string (zaT s a p),j7 (zca s a p)])/\Ext w w':=by
 have HT:=za (fun W (hW:Ext w W)=>hT.ext hW);have D:=za (fun W (hW:Ext w W)=>h.ext hW);have y:=za (fun W (hW:Ext w W)=>ha.ext hW);have z:=za (fun W (hW:Ext w W)=>hp.ext hW);have O:=za (fun W (hW:Ext w W)=>zaH (c:=c) (h.ext hW));have L:=za (fun W (hW:Ext w W)=>zP _ _ _ _ d1 _ _ d1' _ _ (ha.ext hW));have M:=za (fun W (hW:Ext w W)=>zP _ _ _ _ d2 _ _ d2' _ _ (hp.ext hW));clear h ha hp hT;have j:Ext w (((w.alloc (.cells #[s.al,s.st,fC A n c] 38)).alloc (.cells #[a.al,fC B m1 d1,fC B' m1' d1'] 27)).alloc (.cells #[p.al,fC C m2 d2,fC C' m2' d2'] 27)):=(((cY w).alloc _).alloc _).alloc _;obtain⟨t,u,v⟩:=zK (cY (((w.alloc (.cells #[s.al,s.st,fC A n c] 38)).alloc (.cells #[a.al,fC B m1 d1,fC B' m1' d1'] 27)).alloc (.cells #[p.al,fC C m2 d2,fC C' m2' d2'] 27)))
 by_cases hT:zcn s a p=jU
 ·have q:=za (show zaT s a p=vioW [s] a p/\zca s a p=zkc [s] a p by unfold zaT zca;rw [hT];exact⟨rfl,sM⟩);unfold zcn at hT;simp only [dH] at hT;obtain⟨I,X,Y⟩:=hT;have G:=za (show zE [s]=jU by simp [zE,I]);have V1:=za I;have Q:=za X;have R:=za Y;clear I X Y
  go_enter Tryz.func52,Tryz.ntmps52
  go_upto_region 1 with fail
  generalize ((w.alloc _).alloc _).alloc _=w1 at *;have S:=t.cell;go_upto_region 3 with (first
   |(go_at_call 65;with_reducible refine (O.out _ j).mono ?_;rw [V1.out];rintro e w2 ⟨rfl,hx2⟩;have b:=j.trans hx2;have T:=(u.ext hx2).cell)
   |(go_at_call 25;with_reducible refine (L.out _ b).mono ?_;rw [Q.out];rintro e w3 ⟨rfl,f⟩;have d:=b.trans f;have U:=(v.ext (hx2.trans f)).cell)
   |(go_at_call 25;with_reducible refine (M.out _ d).mono ?_;rw [R.out];rintro e J ⟨rfl,k⟩;have m:=d.trans k))
  have i:=hx2.trans (f.trans k);have k1:=(t.ext i).cell;have V:=dZ J 38 #[s.al,s.st,fC A n c];have E:=(cY J).alloc (.cells #[s.al,s.st,fC A n c] 38);have k3:=(v.ext (i.trans E)).cell;have o:=u.ext (i.trans E);have g:=m.trans E;obtain⟨l1,x,r⟩:=ziX V (D.out _ g);have HF:=za (zgN (c:=1) (d2:=d2) (d2':=d2') r G.out (HT.out _ g) o (y.out _ g) Q.out (z.out _ g) R.out);clear S T U t u v r V o;go_wp2_with (go_at_call 84;refine HF.out.mono ?_;rintro e w6 hF;obtain⟨rfl,H⟩:=hF.first (zcq _))
  go_ret2;exact⟨by rw [q.out.1,q.out.2];rfl,g.trans H⟩
 ·have l:zcn s a p=j1:=by simpa using hT
  have q:=za (show zaT s a p=ByteArray.empty/\zca s a p=j1 by unfold zaT zca;rw [l];exact⟨rfl,rfl⟩);have F:=za (show (zk s&&(zj a&&zj p))=j1 from l);clear hT l;cases x:zk s<;>cases h2:zj a<;>cases h3:zj p
  all_goals first
   |(exfalso;have:=F.out;rw [x,h2,h3] at this;cases this;done)
   |(have Z:=za x
     have H2:=za h2;have H3:=za h3;clear x h2 h3
     go_enter Tryz.func52,Tryz.ntmps52
     go_upto_region 1 with fail
     generalize ((w.alloc _).alloc _).alloc _=w1 at *;have S:=t.cell;go_wp2_with (first
      |(go_at_call 65;with_reducible refine (O.out _ j).mono ?_;rw [Z.out];rintro e w2 ⟨rfl,hx2⟩;have b:=j.trans hx2;have T:=(u.ext hx2).cell)
      |(go_at_call 25;with_reducible refine (L.out _ b).mono ?_;rw [H2.out];rintro e w3 ⟨rfl,f⟩;have d:=b.trans f;have U:=(v.ext (hx2.trans f)).cell)
      |(go_at_call 25;with_reducible refine (M.out _ d).mono ?_;rw [H3.out];rintro e J ⟨rfl,k⟩;have m:=d.trans k))
     go_ret2;exact⟨by rw [q.out.1,q.out.2];rfl,by first|exact m|exact d|exact b⟩)
theorem zhw (h:zU w lo hi A n s)(ha:zJ w lo1 hi1 B m1 B' m1' a)(hp:zJ w lo2 hi2 C m2 C' m2' p)(hT:Tab w) :
  j6 j3 26 #[j2 #[s.al,s.st,fC A n c],j2 #[a.al,fC B m1 d1,fC B' m1' d1'],j2 #[p.al,fC C m2 d2,fC C' m2' d2']] w fun e w'=>e=j5 (.bool (zbk s a p))/\Ext w w':=by
 have z:=za (fun W (hW:Ext w W)=>zcW (c:=c) (d1:=d1) (d1':=d1') (d2:=d2) (d2':=d2') (h.ext hW) (ha.ext hW) (hp.ext hW) (hT.ext hW));have y:=za (fun W (hW:Ext w W)=>zaH (c:=c) (h.ext hW));have v:=za (fun W (hW:Ext w W)=>zP _ _ _ _ d1 _ _ d1' _ _ (ha.ext hW));have x:=za (fun W (hW:Ext w W)=>zP _ _ _ _ d2 _ _ d2' _ _ (hp.ext hW));have G:=za (show zbk s a p=((zk s&&(zj a&&zj p))&&!zca s a p) from zeK s a p);clear h ha hp hT;generalize zca s a p=H at *;generalize zaT s a p=M at *;have g:Ext w (((w.alloc (.cells #[s.al,s.st,fC A n c] 38)).alloc (.cells #[a.al,fC B m1 d1,fC B' m1' d1'] 27)).alloc (.cells #[p.al,fC C m2 d2,fC C' m2' d2'] 27)):=(((cY w).alloc _).alloc _).alloc _;obtain⟨r,t,u⟩:=zK (cY (((w.alloc (.cells #[s.al,s.st,fC A n c] 38)).alloc (.cells #[a.al,fC B m1 d1,fC B' m1' d1'] 27)).alloc (.cells #[p.al,fC C m2 d2,fC C' m2' d2'] 27)));cases h1:zk s<;>cases h2:zj a<;>cases h3:zj p<;>cases H
 all_goals
  have m:=za h1;have o:=za h2;have q:=za h3;clear h1 h2 h3
  go_enter Tryz.func26,Tryz.ntmps26
  go_upto_region 1 with fail
  generalize ((w.alloc _).alloc _).alloc _=O at *;have I:=r.cell;have J:=t.cell;have L:=u.cell;go_wp2_with (first
   |(go_at_call 52;refine (z.out _ g).mono (mQ fun Q hx2=>?_);have i:=g.trans hx2;have D:=(r.ext hx2).cell)
   |(go_at_call 65;with_reducible refine (y.out _ i).mono ?_;rw [m.out];rintro e R ⟨rfl,f⟩;have b:=i.trans f;have E:=(t.ext (hx2.trans f)).cell)
   |(go_at_call 25;with_reducible refine (v.out _ b).mono ?_;rw [o.out];rintro e S ⟨rfl,j⟩;have d:=b.trans j;have F:=(u.ext (hx2.trans (f.trans j))).cell)
   |(go_at_call 25;with_reducible refine (x.out _ d).mono ?_;rw [q.out];rintro e T ⟨rfl,l⟩;have k:=d.trans l))
  go_ret;exact⟨zr (by rw [G.out,m.out,o.out,q.out];rfl),by first|exact k|exact d|exact b⟩
variable {k:Nat}{ss:List Sys}
theorem zbP (h:zhl w lo hi A k ss)(hp:zJ w lo2 hi2 C m2 C' m2' p)(hT:Tab w) :
  j6 j3 30 #[fC A k c,j2 #[p.al,fC C m2 d2,fC C' m2' d2']] w fun e w'=>e=j5 (.tuple #[.string (zaq ss p),j7 (zbB ss p)])/\Ext w w':=by
 have j:=za (fun W (hW:Ext w W)=>h.ext hW);have m:=za (fun W (hW:Ext w W)=>hp.ext hW);have s:=za (fun W (hW:Ext w W)=>hT.ext hW);clear h hp hT;have a:Ext w (w.alloc (.cells #[p.al,fC C m2 d2,fC C' m2' d2'] 27)):=(cY w).alloc _;have n:=dZ w 27 #[p.al,fC C m2 d2,fC C' m2' d2'];cases hA:zE ss
 ·have g:=za (show zaq ss p=ByteArray.empty/\zbB ss p=j1 by unfold zaq zbB zcz;rw [hA];exact⟨rfl,rfl⟩);have i:=za hA;clear hA
  go_enter Tryz.func30,Tryz.ntmps30
  go_upto_region 1 with fail
  generalize w.alloc _=q at *;go_wp2_with (go_at_call 78;refine (zbv (j.out _ a)).mono ?_;rw [i.out];rintro e r ⟨rfl,hx2⟩)
  go_ret2;exact⟨by rw [g.out.1,g.out.2];rfl,a.trans hx2⟩
 ·cases hV:zj p
  ·have g:=za (show zaq ss p=ByteArray.empty/\zbB ss p=j1 by unfold zaq zbB zcz;rw [hA,hV];exact⟨rfl,rfl⟩);have l:=za hV;have i:=za hA;clear hA hV
   go_enter Tryz.func30,Tryz.ntmps30
   go_upto_region 1 with fail
   generalize w.alloc _=q at *;go_wp2_with (first
    |(go_at_call 78;refine (zbv (j.out _ a)).mono ?_;rw [i.out];rintro e r ⟨rfl,hx2⟩;have d:=a.trans hx2;have t:=(n.ext hx2).cell)
    |(go_at_call 25;refine (zP _ _ _ _ _ _ _ _ _ _ (m.out _ d)).mono ?_;rw [l.out];rintro e u ⟨rfl,f⟩;have b:=d.trans f))
   go_ret2;exact⟨by rw [g.out.1,g.out.2];rfl,b⟩
  ·have g:=za (show zaq ss p=vioW ss free p/\zbB ss p=zkc ss free p by unfold zaq zbB zcz;rw [hA,hV];exact⟨rfl,sM⟩);have l:=za hV;have i:=za hA;clear hA hV
   go_enter Tryz.func30,Tryz.ntmps30
   go_upto_region 1 with fail
   generalize w.alloc _=q at *;go_wp2_with (first
    |(go_at_call 78;refine (zbv (j.out _ a)).mono ?_;rw [i.out];rintro e r ⟨rfl,hx2⟩;have d:=a.trans hx2;have t:=(n.ext hx2).cell)
    |(go_at_call 25;refine (zP _ _ _ _ _ _ _ _ _ _ (m.out _ d)).mono ?_;rw [l.out];rintro e u ⟨rfl,f⟩;have b:=d.trans f;have v:=(n.ext (hx2.trans f)).cell)
    |(go_at_call 84;refine (zfa (c:=c) (d2:=d2) (d2':=d2') (j.out _ b) i.out (s.out _ b) (m.out _ b) l.out).mono ?_;rintro e x hF;obtain⟨rfl,o⟩:=hF.first (zcq _)))
   go_ret2;exact⟨by rw [g.out.1,g.out.2];rfl,b.trans o⟩
theorem zim (h:zhl w lo hi A k ss)(hp:zJ w lo2 hi2 C m2 C' m2' p)(hT:Tab w) :
  j6 j3 28 #[fC A k c,j2 #[p.al,fC C m2 d2,fC C' m2' d2']] w fun e w'=>e=j5 (.bool (zaE ss p))/\Ext w w':=by
 have q:=za (fun W (hW:Ext w W)=>zbP (c:=c) (d2:=d2) (d2':=d2') (h.ext hW) (hp.ext hW) (hT.ext hW));have o:=za (fun W (hW:Ext w W)=>h.ext hW);have n:=za (fun W (hW:Ext w W)=>hp.ext hW);have r:=za (show zaE ss p=(zE ss&&zj p&&!zbB ss p) from zfp ss p);clear h hp hT;generalize zbB ss p=s at *;generalize zaq ss p=v at *;have d:Ext w (w.alloc (.cells #[p.al,fC C m2 d2,fC C' m2' d2'] 27)):=(cY w).alloc _;have m:=dZ w 27 #[p.al,fC C m2 d2,fC C' m2' d2'];cases hA:zE ss<;>cases hVv:zj p<;>cases s
 all_goals
  have l:=za (show zE ss=_ from hA);have b:=za hVv;clear hA hVv
  go_enter Tryz.func28,Tryz.ntmps28
  go_upto_region 1 with fail
  generalize w.alloc _=x at *;have t:=m.cell;go_wp2_with (first
   |(go_at_call 30;refine (q.out _ d).mono (mQ fun y hx2=>?_);have f:=d.trans hx2)
   |(go_at_call 78;refine (zbv (o.out _ f)).mono ?_;rw [l.out];rintro e z ⟨rfl,g⟩;have a:=f.trans g;have u:=(m.ext (hx2.trans g)).cell)
   |(go_at_call 25;refine (zP _ _ _ _ _ _ _ _ _ _ (n.out _ a)).mono ?_;rw [b.out];rintro e B ⟨rfl,j⟩;have i:=a.trans j))
  go_ret;exact⟨zr (by rw [r.out,l.out,b.out];rfl),by first|exact i|exact a⟩
theorem zfO (h:zU w lo hi A n s)(hp:zJ w lo2 hi2 C m2 C' m2' p)(hT:Tab w) :
  j6 j3 27 #[j2 #[s.al,s.st,fC A n c],j2 #[p.al,fC C m2 d2,fC C' m2' d2']] w fun e w'=>e=j5 (.bool (zaE [s] p))/\Ext w w':=by
 have k:=za (fun W (hW:Ext w W)=>h.ext hW);have j:=za (fun W (hW:Ext w W)=>hp.ext hW);have l:=za (fun W (hW:Ext w W)=>hT.ext hW);clear h hp hT
 go_enter Tryz.func27,Tryz.ntmps27
 go_upto_region 1 with fail
 generalize U0:(w.alloc _).alloc _=i at *;obtain⟨d,m,o⟩:=Ext.x2_ U0;clear U0;have r:=m.cell;have q:=dZ i 38 #[s.al,s.st,fC A n c];have g:=(cY i).alloc (.cells #[s.al,s.st,fC A n c] 38);have t:=(o.ext g).cell;have a:=d.trans g;obtain⟨v,u,b⟩:=ziX q (k.out _ a);go_wp2_with (go_at_call 28;refine (zim b (j.out _ a) (l.out _ a)).mono (mQ fun x f=>?_))
 go_ret;exact⟨zr rfl,a.trans f⟩
end
def three (ss:List Sys) (p:Aut):Bool:=decide (ss.length=3)&&(zE ss&&zj p)
def chain1 (ss:List Sys) (p:Aut):Int:=
 if three ss p then match ss with
  |[x,y,z]=>bits .and iX (bits .or iX x.al p.al) (bits .or iX y.al z.al)
  |_ => -1
 else -1
def chain2 (ss:List Sys) (p:Aut):Int:=
 if three ss p then match ss with
  |[_,y,z]=>bits .and iX (bits .or iX y.al (chain1 ss p)) z.al
  |_ => -1
 else -1
theorem three_list (h:three ss p=jU):∃ x y z,ss=[x,y,z]:=by
 simp only [three,dH,decide_eq_true_eq] at h
 match ss,h.1 with
 |[x,y,z],_=>exact⟨x,y,z,rfl⟩
noncomputable def faultN (ss:List Sys) (p f g:Aut):Int:=
 if (three ss p&&(zj f&&zj g))=j1 then 1
 else if (decide (f.al=chain1 ss p)&&decide (g.al=chain2 ss p))=j1 then 2
 else match ss with
  |[x,y,z]=>if (zbk x f p&&zbk y g f)=j1 then 3 else if zaE [z] g=j1 then 4 else 0
  |_=>0
def iface (s:Sys) (p:Aut) (t:Sys):Int:=if (zk s&&(zj p&&zk t))=jU then (((s.al.toNat|||p.al.toNat)&&&t.al.toNat:Nat):Int) else -1
section
variable {lo hi n c:Nat}{A:Option Addr}{s:Sys}{lo1 hi1 m1 d1 m1' d1':Nat}{B B':Option Addr}{p:Aut}{lo2 hi2 k c2:Nat}{C:Option Addr}{t:Sys}{w:World}
theorem zcG (h:zU w lo hi A n s)(hp:zJ w lo1 hi1 B m1 B' m1' p)(ht:zU w lo2 hi2 C k t) :
  j6 j3 95 #[j2 #[s.al,s.st,fC A n c],j2 #[p.al,fC B m1 d1,fC B' m1' d1'],j2 #[t.al,t.st,fC C k c2]] w fun e w'=>e=j5 (.int iX (iface s p t))/\Ext w w':=by
 have E:=za (fun W (hW:Ext w W)=>zax (c:=c) (h.ext hW));have D:=za (fun W (hW:Ext w W)=>zQ _ _ _ _ d1 _ _ d1' _ _ (hp.ext hW));have F:=za (fun W (hW:Ext w W)=>zax (c:=c2) (ht.ext hW));clear h hp ht;cases h1:zk s<;>cases h2:zj p<;>cases h3:zk t
 case true.true.true =>
  have u:=za h1;have v:=za h2;have z:=za h3;have L:=zab h1;have M:=(zl h2).1;have O:=zab h3;obtain⟨a,G⟩:∃ a:Nat,Hid (s.al=a):=⟨s.al.toNat,by unfold Hid;omega⟩;obtain⟨b,H⟩:∃ a:Nat,Hid (p.al=a):=⟨p.al.toNat,by unfold Hid;omega⟩;obtain⟨d,I⟩:∃ a:Nat,Hid (t.al=a):=⟨t.al.toNat,by unfold Hid;omega⟩;have J:=za (show iface s p t=((((a|||b)&&&d:Nat)):Int) by unfold iface;rw [h1,h2,h3,G.out,H.out,I.out];rfl);rw [G.out] at L;rw [H.out] at M;rw [I.out] at O;have Y:a<=63:=oM;have Z:b<=63:=oM;have d6:d<=63:=oM;have S:=eP (n:=6) (x:=a) (y:=b) oM oM;have ho:=zcd (a:=a) (b:=b) tM tM;have hn:=zdi (a:=a|||b) (b:=d) tM tM;clear h1 h2 h3 L M O S;rw [G.out] at E ⊢;rw [H.out] at D ⊢;rw [I.out] at F ⊢
  go_enter Tryz.func95,Tryz.ntmps95
  go_upto_region 1 with fail
  generalize U0:((w.alloc _).alloc _).alloc _=T at *;obtain⟨l,o,q,r⟩:=jI U0;clear U0;have Q:=o.cell;go_wp2_with (first
   |(go_at_call 185;with_reducible refine (E.out _ l).mono ?_;rw [u.out];rintro e U ⟨rfl,hx2⟩;have g:=l.trans hx2;have c2:=(q.ext hx2).cell)
   |(go_at_call 79;with_reducible refine (D.out _ g).mono ?_;rw [v.out];rintro e V ⟨rfl,f⟩;have i:=g.trans f;have R:=(r.ext (hx2.trans f)).cell)
   |(go_at_call 185;with_reducible refine (F.out _ i).mono ?_;rw [z.out];rintro e X ⟨rfl,j⟩;have m:=i.trans j;have k1:=(o.ext (hx2.trans (f.trans j))).cell;have k2:=(q.ext (hx2.trans (f.trans j))).cell;have k3:=(r.ext (hx2.trans (f.trans j))).cell))
  go_ret;exact⟨zaa (by rw [J.out]),m⟩
 all_goals
  have J:=za (show iface s p t = -1 by unfold iface;rw [h1,h2,h3];rfl);have u:=za h1;have v:=za h2;have z:=za h3;clear h1 h2 h3
  go_enter Tryz.func95,Tryz.ntmps95
  go_upto_region 1 with fail
  generalize U0:((w.alloc _).alloc _).alloc _=T at *;obtain⟨l,o,q,r⟩:=jI U0;clear U0;have Q:=o.cell;go_wp2_with (first
   |(go_at_call 185;with_reducible refine (E.out _ l).mono ?_;rw [u.out];rintro e U ⟨rfl,hx2⟩;have g:=l.trans hx2;have c2:=(q.ext hx2).cell)
   |(go_at_call 79;with_reducible refine (D.out _ g).mono ?_;rw [v.out];rintro e V ⟨rfl,f⟩;have i:=g.trans f;have R:=(r.ext (hx2.trans f)).cell)
   |(go_at_call 185;with_reducible refine (F.out _ i).mono ?_;rw [z.out];rintro e X ⟨rfl,j⟩;have m:=i.trans j))
  go_ret;exact⟨zaa (by rw [J.out]),by first|exact m|exact i|exact g⟩
theorem zcD (h:zU w lo hi A n s)(hp:zJ w lo1 hi1 B m1 B' m1' p)(ht:zU w lo2 hi2 C k t) :
  j6 j3 83 #[j2 #[s.al,s.st,fC A n c],j2 #[p.al,fC B m1 d1,fC B' m1' d1'],j2 #[t.al,t.st,fC C k c2]] w fun e w'=>e=j5 (.int iX (iface s p t))/\Ext w w':=by
 have E:=za (fun W (hW:Ext w W)=>zaH (c:=c) (h.ext hW));have D:=za (fun W (hW:Ext w W)=>zP _ _ _ _ d1 _ _ d1' _ _ (hp.ext hW));have F:=za (fun W (hW:Ext w W)=>zaH (c:=c2) (ht.ext hW));clear h hp ht;cases h1:zk s<;>cases h2:zj p<;>cases h3:zk t
 case true.true.true =>
  have u:=za h1;have v:=za h2;have z:=za h3;have L:=zab h1;have M:=(zl h2).1;have O:=zab h3;obtain⟨a,G⟩:∃ a:Nat,Hid (s.al=a):=⟨s.al.toNat,by unfold Hid;omega⟩;obtain⟨b,H⟩:∃ a:Nat,Hid (p.al=a):=⟨p.al.toNat,by unfold Hid;omega⟩;obtain⟨d,I⟩:∃ a:Nat,Hid (t.al=a):=⟨t.al.toNat,by unfold Hid;omega⟩;have J:=za (show iface s p t=((((a|||b)&&&d:Nat)):Int) by unfold iface;rw [h1,h2,h3,G.out,H.out,I.out];rfl);rw [G.out] at L;rw [H.out] at M;rw [I.out] at O;have Y:a<=63:=oM;have Z:b<=63:=oM;have d6:d<=63:=oM;have S:=eP (n:=6) (x:=a) (y:=b) oM oM;have ho:=zcd (a:=a) (b:=b) tM tM;have hn:=zdi (a:=a|||b) (b:=d) tM tM;clear h1 h2 h3 L M O S;rw [G.out] at E ⊢;rw [H.out] at D ⊢;rw [I.out] at F ⊢
  go_enter Tryz.func83,Tryz.ntmps83
  go_upto_region 1 with fail
  generalize U0:((w.alloc _).alloc _).alloc _=T at *;obtain⟨l,o,q,r⟩:=jI U0;clear U0;have Q:=o.cell;go_wp2_with (first
   |(go_at_call 65;with_reducible refine (E.out _ l).mono ?_;rw [u.out];rintro e U ⟨rfl,hx2⟩;have g:=l.trans hx2;have c2:=(q.ext hx2).cell)
   |(go_at_call 25;with_reducible refine (D.out _ g).mono ?_;rw [v.out];rintro e V ⟨rfl,f⟩;have i:=g.trans f;have R:=(r.ext (hx2.trans f)).cell)
   |(go_at_call 65;with_reducible refine (F.out _ i).mono ?_;rw [z.out];rintro e X ⟨rfl,j⟩;have m:=i.trans j;have k1:=(o.ext (hx2.trans (f.trans j))).cell;have k2:=(q.ext (hx2.trans (f.trans j))).cell;have k3:=(r.ext (hx2.trans (f.trans j))).cell))
  go_ret;exact⟨zaa (by rw [J.out]),m⟩
 all_goals
  have J:=za (show iface s p t = -1 by unfold iface;rw [h1,h2,h3];rfl);have u:=za h1;have v:=za h2;have z:=za h3;clear h1 h2 h3
  go_enter Tryz.func83,Tryz.ntmps83
  go_upto_region 1 with fail
  generalize U0:((w.alloc _).alloc _).alloc _=T at *;obtain⟨l,o,q,r⟩:=jI U0;clear U0;have Q:=o.cell;go_wp2_with (first
   |(go_at_call 65;with_reducible refine (E.out _ l).mono ?_;rw [u.out];rintro e U ⟨rfl,hx2⟩;have g:=l.trans hx2;have c2:=(q.ext hx2).cell)
   |(go_at_call 25;with_reducible refine (D.out _ g).mono ?_;rw [v.out];rintro e V ⟨rfl,f⟩;have i:=g.trans f;have R:=(r.ext (hx2.trans f)).cell)
   |(go_at_call 65;with_reducible refine (F.out _ i).mono ?_;rw [z.out];rintro e X ⟨rfl,j⟩;have m:=i.trans j))
  go_ret;exact⟨zaa (by rw [J.out]),by first|exact m|exact i|exact g⟩
end
end Go.Proofs.YtckbjnndaaoddaaGreatDoor
