/- impl.firstBr -/
import Derived.Test.YtcfchopfijalpaaGreatDoorD05
set_option maxHeartbeats 8000000
set_option maxRecDepth 100000
namespace Go.Proofs.YtcfchopfijalpaaGreatDoor
open Go Go.RowKit
open Blk renaming new->dX
open Bool renaming and_eq_true->dJ
open Ext renaming bl_->dZ,refl->cY,x3_->jJ
open Int renaming natCast_mul->fW
open List renaming take_of_length_le->dL
open Nat renaming ne_of_lt->eW,or_lt_two_pow->eR,pow_le_pow_right->eH
variable {hi lo:Nat} {p:Aut} {ss:List Sys} {w:World}
theorem yD06d1 {P:Prop}(h:P:=by
 have Kh10:=h10.cell 0;have Zh10:=h10.frozen 0;refine zb fun K hK=>?_;go_simp;have hx2:=hx0.frm (Frm.setCell w23 g10 0 (.slice UA a.next.length uc)) (fun k hk e=>oH hGh10);have hA2:=hA.set h10 dM (.slice UA a.next.length uc);have hP2:=hP.set h10 dM (.slice UA a.next.length uc);have h102:Blk (w23.setCell g10 (.slice UA a.next.length uc)) g10 177 #[.slice UA a.next.length uc]:=by simpa using h10.ab 0 (.slice UA a.next.length uc)
 have h112:=h11.far (p:=⟨g10,0,none⟩) (by first|exact hne|exact hne.symm) (.slice UA a.next.length uc)
 refine hK.out _ _ ?_;refine pT ?_;clear hA hP h10 h11 Kh10 Zh10 hx0;generalize w23.setCell g10 (.slice UA a.next.length uc)=w24 at *;have hA:=hA2;have hP:=hP2;have h10:=h102;have h11:=h112;have hx0:=hx2;clear hA2 hP2 h102 h112 hx2;have Kh11:=h11.cell 0;have Zh11:=h11.frozen 0;refine zb fun K hK=>?_;go_simp;have hx2:=hx0.frm (Frm.setCell w24 g11 0 (.slice RA p.next.length rc)) (fun k hk e=>oH hGh11);have hA2:=hA.set h11 dM (.slice RA p.next.length rc);have hP2:=hP.set h11 dM (.slice RA p.next.length rc);have h112:Blk (w24.setCell g11 (.slice RA p.next.length rc)) g11 177 #[.slice RA p.next.length rc]:=by simpa using h11.ab 0 (.slice RA p.next.length rc)
 have h102:=h10.far (p:=⟨g11,0,none⟩) (by first|exact hne|exact hne.symm) (.slice RA p.next.length rc)
 refine hK.out _ _ ?_;refine pT ?_;clear hA hP h10 h11 Kh11 Zh11 hx0;generalize w24.setCell g11 (.slice RA p.next.length rc)=w25 at *;have hA:=hA2;have hP:=hP2;have h10:=h102;have h11:=h112;have hx0:=hx2;clear hA2 hP2 h102 h112 hx2;refine zf ?_;go_wp2_with fail
 go_meet;exact⟨g10,g11,UA,RA,uc,rc,rfl,rfl,hx0,h10,h11,hA,hP⟩
 ):P:=h
theorem yD06c1 {P:Prop}(h:P:=by
 refine zb fun K hK=>?_;go_simp;refine (hTP.out _ hx0).mono ?_;rintro e w23 ⟨RA,rc,rfl,hP,hx1⟩;replace hx0:=hx0.trans hx1;replace h10:=h10.ext hx1;replace h11:=h11.ext hx1;replace hA:=hA.ext hx1;clear hx1;refine hK.out _ _ ?_;refine pT ?_;exact yD06d1
 ):P:=h
theorem yD06b1 {P:Prop}(h:P:=by
 refine ze fun K hK=>?_;go_simp;refine (hTA.out _ hx0).mono ?_;rintro e w22 ⟨UA,uc,rfl,hA,hx1⟩;replace hx0:=hx0.trans hx1;replace h10:=h10.ext hx1;replace h11:=h11.ext hx1;clear hx1;refine hK.out _ _ hx0 ?_;refine pT ?_;exact yD06c1
 ):P:=h
theorem yD06c2 {P:Prop}(h:P:=by
 exact yD06d1
 ):P:=h
theorem yD06b3 {P:Prop}(h:P:=by
 refine ze fun K hK=>?_;go_simp;have hne:=Nat.ne_of_lt h11.lt;have hGh10:=hx0.size;have hx1:=(Ext.refl w22).alloc (.cells #[()] 177);replace hx0:=hx0.trans hx1;replace h11:=h11.ext hx1;replace hA:=hA.ext hx1;replace hP:=hP.ext hx1;clear hx1;refine hK.out _ _ hx0 ?_;refine pT ?_;generalize U0:w22.alloc _=w23 at *;have h10:=Ext.bl_ U0;clear U0;generalize w22.heap.size=g10 at *;exact yD06c2
 ):P:=h
theorem yD06b4 {P:Prop}(h:P:=by
 exact yD06c1
 ):P:=h
theorem reads_blk {g:Nat} {t:TypeId} {v:Value}(h:Blk w g t #[v])(h1:lo<=g)(h2:g<hi):Reads w lo hi 1 (some ⟨g,0,none⟩) 1 [v]:=
 ⟨rfl,oM,fun _=>⟨_,rfl,h1,h2,fun j u hu=>by
  rw [zZ,Nat.zero_add,h.cell]
  simpa using hu⟩⟩
theorem yD06a1 {P:Prop}(h:P:=by
 refine zn (fun K hK=>?_) (fun K hK=>?_)
 ·go_simp;refine (hTA.out _ hx0).mono ?_;rintro e w21 ⟨UA,uc,rfl,hA,hx1⟩;replace hx0:=hx0.trans hx1;replace h11:=h11.ext hx1;clear hx1;refine hK.out _ _ hx0 ?_;refine pT ?_;refine zn (fun K hK=>?_) (fun K hK=>?_)
  ·go_simp;refine (hTP.out _ hx0).mono ?_;rintro e w22 ⟨RA,rc,rfl,hP,hx1⟩;replace hx0:=hx0.trans hx1;replace h11:=h11.ext hx1;replace hA:=hA.ext hx1;clear hx1;refine hK.out _ _ hx0 ?_;refine pT ?_;exact yD06b3
  ·go_simp;have hne:=Nat.ne_of_lt h11.lt;have hGh10:=hx0.size;have hx1:=(Ext.refl w21).alloc (.cells #[()] 177);replace hx0:=hx0.trans hx1;replace h11:=h11.ext hx1;replace hA:=hA.ext hx1;clear hx1;refine hK.out _ _ hx0 ?_;refine pT ?_;generalize U0:w21.alloc _=w22 at *;have h10:=Ext.bl_ U0;clear U0;generalize w21.heap.size=g10 at *;exact yD06b4
 ·go_simp;have hne:=Nat.ne_of_lt h11.lt;have hGh10:=hx0.size;have hx1:=(Ext.refl w20).alloc (.cells #[()] 177);replace hx0:=hx0.trans hx1;replace h11:=h11.ext hx1;clear hx1;refine hK.out _ _ hx0 ?_;refine pT ?_;generalize U0:w20.alloc _=w21 at *;have h10:=Ext.bl_ U0;clear U0;generalize w20.heap.size=g10 at *;exact yD06b1
 ):P:=h
theorem yD06b2 {P:Prop}(h:P:=by
 refine ze fun K hK=>?_;go_simp;have hne:=Nat.ne_of_lt h10.lt;have hGh11:=hx0.size;have hx1:=(Ext.refl w22).alloc (.cells #[()] 177);replace hx0:=hx0.trans hx1;replace h10:=h10.ext hx1;replace hA:=hA.ext hx1;replace hP:=hP.ext hx1;clear hx1;refine hK.out _ _ hx0 ?_;refine pT ?_;generalize U0:w22.alloc _=w23 at *;have h11:=Ext.bl_ U0;clear U0;generalize w22.heap.size=g11 at *;exact yD06c2
 ):P:=h
theorem yD06a2 {P:Prop}(h:P:=by
 refine zn (fun K hK=>?_) (fun K hK=>?_)
 ·go_simp;refine (hTA.out _ hx0).mono ?_;rintro e w21 ⟨UA,uc,rfl,hA,hx1⟩;replace hx0:=hx0.trans hx1;replace h10:=h10.ext hx1;clear hx1;refine hK.out _ _ hx0 ?_;refine pT ?_;refine zn (fun K hK=>?_) (fun K hK=>?_)
  ·go_simp;refine (hTP.out _ hx0).mono ?_;rintro e w22 ⟨RA,rc,rfl,hP,hx1⟩;replace hx0:=hx0.trans hx1;replace h10:=h10.ext hx1;replace hA:=hA.ext hx1;clear hx1;refine hK.out _ _ hx0 ?_;refine pT ?_;exact yD06b2
  ·go_simp;have hne:=Nat.ne_of_lt h10.lt;have hGh11:=hx0.size;have hx1:=(Ext.refl w21).alloc (.cells #[()] 177);replace hx0:=hx0.trans hx1;replace h10:=h10.ext hx1;replace hA:=hA.ext hx1;clear hx1;refine hK.out _ _ hx0 ?_;refine pT ?_;generalize U0:w21.alloc _=w22 at *;have h11:=Ext.bl_ U0;clear U0;generalize w21.heap.size=g11 at *;exact yD06b4
 ·go_simp;have hne:=Nat.ne_of_lt h10.lt;have hGh11:=hx0.size;have hx1:=(Ext.refl w20).alloc (.cells #[()] 177);replace hx0:=hx0.trans hx1;replace h10:=h10.ext hx1;clear hx1;refine hK.out _ _ hx0 ?_;refine pT ?_;generalize U0:w20.alloc _=w21 at *;have h11:=Ext.bl_ U0;clear U0;generalize w20.heap.size=g11 at *;exact yD06b1
 ):P:=h
theorem yD06c3 {P:Prop}(h:P:=by
 refine zb fun K hK=>?_;go_simp;refine (key.out _ hx0 _ _ _ _ _ hI hIL).mono ?_;rintro e w23 ⟨hx1,hcase⟩;have hx2:=hw9.trans (hx0.trans hx1);rcases hcase with ⟨v,rfl,hF⟩|⟨rfl,hF⟩
 ·have hres:=za (show zV w (zcn ss a p) [0] (zbW a p) (letters (U|||al) 6) _ w23 from ⟨hx2,Or.inl ⟨v,rfl,hF⟩⟩);refine hK.out _ _ ?_;refine pT ?_;refine uQ ?_;refine zf ?_;go_wp2_with fail
  go_ret2;exact hres.out
 ·have hres:=za (show zV w (zcn ss a p) [0] (zbW a p) (letters (U|||al) 6) _ w23 from ⟨hx2,Or.inr ⟨rfl,hF⟩⟩);refine hK.out _ _ ?_;refine pT ?_;refine uQ ?_;refine zf ?_;go_wp2_with fail
  go_ret2;exact hres.out
 ):P:=h
theorem yD06b6 {P:Prop}(h:P:=by
 exact yD06c3
 ):P:=h
theorem yD06a3 {P:Prop}(h:P:=by
 refine hK.out _ _ hx0 ?_;refine pT ?_;refine uQ ?_;refine zn (fun K hK=>?_) (fun K hK=>?_)
 ·go_simp;have hI:=zdC (x:=0) (Blk.new w20 3 #[.int .i64 ((0:Nat):Int)]);have hx1:=(Ext.refl w20).alloc (.cells #[.int .i64 ((0:Nat):Int)] 3);replace hx0:=hx0.trans hx1;clear hx1;refine hK.out _ _ hx0 ?_;refine pT ?_;generalize w20.alloc _=w21 at *;generalize w20.heap.size=g1 at *;refine ze fun K hK=>?_;go_simp;refine (hLT.out w21).mono ?_;rintro e w22 ⟨AL,cL,rfl,hownL,hx1⟩;have hIL:=zay.own hownL;clear hownL;replace hx0:=hx0.trans hx1;replace hI:=hI.ext hx1;clear hx1;refine hK.out _ _ hx0 ?_;refine pT ?_;exact yD06b6
 ·go_simp;refine (hLT.out w20).mono ?_;rintro e w21 ⟨AL,cL,rfl,hownL,hx1⟩;have hIL:=zay.own hownL;clear hownL;replace hx0:=hx0.trans hx1;clear hx1;refine hK.out _ _ hx0 ?_;refine pT ?_;refine ze fun K hK=>?_;go_simp;have hI:=zdC (x:=0) (Blk.new w21 3 #[.int .i64 ((0:Nat):Int)]);have hx1:=(Ext.refl w21).alloc (.cells #[.int .i64 ((0:Nat):Int)] 3);replace hx0:=hx0.trans hx1;replace hIL:=hIL.ext hx1;clear hx1;refine hK.out _ _ hx0 ?_;refine pT ?_;generalize w21.alloc _=w22 at *;generalize w21.heap.size=g1 at *;exact yD06b6
 ):P:=h
theorem yD06a4 {P:Prop}(h:P:=by
 refine ze fun K hK=>?_;go_simp;refine hK.out _ _ hx0 ?_;refine pT ?_;refine uQ ?_;exact yD06b1
 ):P:=h
theorem yD06a5 {P:Prop}(h:P:=by
 exact yD06b2
 ):P:=h
theorem yD06a6 {P:Prop}(h:P:=by
 exact yD06b3
 ):P:=h
theorem yD06a7 {P:Prop}(h:P:=by
 exact yD06b4
 ):P:=h
theorem yD06a8 {P:Prop}(h:P:=by
 have Kh12:=h12.cell 0;have Zh12:=h12.frozen 0;refine ze fun K hK=>?_;go_simp;have hx2:=hx0.frm (Frm.setCell w21 g12 0 (.int .i64 (a.next.length:Nat))) (fun k hk e=>oH hGh12);have h122:Blk (w21.setCell g12 (.int .i64 (a.next.length:Nat))) g12 3 #[.int .i64 (a.next.length:Nat)]:=by simpa using h12.ab 0 (.int .i64 (a.next.length:Nat))
 have h132:=h13.far (p:=⟨g12,0,none⟩) (by first|exact hne|exact hne.symm) (.int .i64 (a.next.length:Nat))
 refine hK.out _ _ hx2 ?_;refine pT ?_;clear h12 h13 Kh12 Zh12 hx0;generalize w21.setCell g12 (.int .i64 (a.next.length:Nat))=w22 at *;have h12:=h122;have h13:=h132;have hx0:=hx2;clear h122 h132 hx2;have Kh13:=h13.cell 0;have Zh13:=h13.frozen 0;refine zb fun K hK=>?_;go_simp;have hx2:=hx0.frm (Frm.setCell w22 g13 0 (.int .i64 (p.next.length:Nat))) (fun k hk e=>oH hGh13);have h132:Blk (w22.setCell g13 (.int .i64 (p.next.length:Nat))) g13 3 #[.int .i64 (p.next.length:Nat)]:=by simpa using h13.ab 0 (.int .i64 (p.next.length:Nat))
 have h122:=h12.far (p:=⟨g13,0,none⟩) (by first|exact hne|exact hne.symm) (.int .i64 (p.next.length:Nat))
 refine hK.out _ _ ?_;refine pT ?_;clear h12 h13 Kh13 Zh13 hx0;generalize w22.setCell g13 (.int .i64 (p.next.length:Nat))=w23 at *;have h12:=h122;have h13:=h132;have hx0:=hx2;clear h122 h132 hx2;refine zf ?_;go_wp2_with fail
 go_meet;exact⟨g12,g13,rfl,rfl,hx0,h12,h13⟩
 ):P:=h
theorem yD06b5 {P:Prop}(h:P:=by
 refine hK.out _ _ hx0 ?_;refine pT ?_;refine uQ ?_;refine ze fun K hK=>?_;go_simp;refine (hLT.out w21).mono ?_;rintro e w22 ⟨AL,cL,rfl,hownL,hx1⟩;have hIL:=zay.own hownL;clear hownL;replace hx0:=hx0.trans hx1;replace hI:=hI.ext hx1;clear hx1;refine hK.out _ _ hx0 ?_;refine pT ?_;exact yD06c3
 ):P:=h
theorem yD06a9 {P:Prop}(h:P:=by
 refine ze fun K hK=>?_;go_simp;refine (hSZ.out _ hx0).mono (mQ fun w21 hx1=>?_);replace hx0:=hx0.trans hx1;replace hI:=hI.ext hx1;clear hx1;exact yD06b5
 ):P:=h
theorem yD06a10 {P:Prop}(h:P:=by
 refine ze fun K hK=>?_;go_simp;exact yD06b5
 ):P:=h
theorem zfi {k c:Nat} {A:Option Addr}  {C:Option Addr} {m2 d2:Nat} {C':Option Addr} {m2' d2' lo2 hi2:Nat}  
  (h:zgL w lo hi A k ss) (hap:zA ss=true) (hT:Tab w) (hP0:zH w lo2 hi2 C m2 C' m2' p) (hp:zj p=true) :
  Calls Tryz.prog 102 #[.slice A k c,.pointer none,.agg #[p.al,.slice C m2 d2,.slice C' m2' d2']] w (zV w (zcn ss free p) [0] (zbW free p) (letters (zG ss|||free.al.toNat) 6)):=by
 have hv:=zdW;obtain⟨a,aw⟩:∃ a,Hid (a=free):=⟨_,rfl⟩;rw [← aw.out] at hv ⊢;have ae:∀ s∈ss,zk s=true:=by
  unfold zA at hap;simp only [dJ,List.all_eq_true] at hap;exact hap.2.2
 have a7:k<=3:=by
  unfold zA at hap;simp only [dJ,decide_eq_true_eq] at hap;have:=h.1;omega
 have F:=za (fun (s:Sys) (hs:s∈ss)=>zcA (ae s hs));have a5:=za (fun (s:Sys) (hs:s∈ss)=>show Few 16 s.edges from by
  obtain⟨q,_,_,hq,hf⟩:=zcx (ae s hs);exact fun e he=>by have:=hf e he;omega)
 have hU:zG ss<=63:=by
  have key:∀ l:List Sys,(∀ s∈l,zk s=true)->zG l<=63:=by
   intro l hl;have:∀ n,zG (l.take n)<=63:=by
    intro n
    induction n with
    |zero=>simp [zG]
    |succ n ih =>
     rcases Nat.lt_or_ge n l.length with Z|Z
     ·rw [zdt (List.getElem?_eq_getElem Z)];have:=zR (hl _ (List.getElem_mem Z));have:=eR (n:=6) (x:=zG (l.take n)) (y:=l[n].al.toNat) oM oM;omega
     ·rw [dL oM];rw [dL Z] at ih;exact ih
   have h2:=this l.length;rwa [List.take_length] at h2
  exact key ss ae
 have br:=(zl hv).1;obtain⟨al,J⟩:∃ al:Nat,Hid (a.al=al):=⟨a.al.toNat,by unfold Hid;omega⟩;have bR:al<=63:=oH J.out;have bA:=za (show zbj ss=(zG ss:Int) by unfold zbj;rw [hap];rfl);have a3:=za (show a.al.toNat=al by have:=J.out;omega);have bS:=za (show 0<=p.al∧p.al<=63 from (zl hp).1);rw [a3.out];have HS:=za (fun W (hW:Ext w W)=>h.ext hW);have HT:=za (fun W (hW:Ext w W)=>hT.ext hW);have HP:=za (fun W (hW:Ext w W)=>hP0.ext hW);have Hv:=za hv;have Hp:=za hp;generalize hUe:zG ss=U at *;have HU:=za hUe;clear hUe h hT hP0 hv hp hap ae br
 go_enter Tryz.func102,Tryz.ntmps102
 go_upto_region 1 with fail
 generalize U0:(w.alloc _).alloc _=w2 at *;obtain⟨O,b4,b5⟩:=Ext.x2_ U0;clear U0;go_upto_region 2 with (go_at_call 178;refine (zgc (HS.out _ O) a5.out oM).mono ?_;rintro e w3 ⟨M,dm,rfl,a9,ag⟩)
 have bE:=O.trans ag;have b8:=dX w3 204 #[.slice A k c,.slice M k dm];have T:=ag.alloc (.cells #[.slice A k c,.slice M k dm] 204);have ap:=a9.ext ((cY w3).alloc (.cells #[.slice A k c,.slice M k dm] 204));have aj:w2.heap.size<=w3.heap.size:=ag.size;generalize hg8:w3.heap.size=g8 at *;clear a9 hg8;generalize w3.alloc _=w4 at *;have aA:=O.trans T;clear bE ag;go_upto_region 3 with (go_at_call 104;refine (zbp (HS.out _ aA)).mono ?_;rw [bA.out];rintro e f ⟨rfl,v⟩)
 have Y:=b4.ext (T.trans v);have aN:=b5.ext (T.trans v);have aQ:=b8.ext v;have aq:=ap.ext v;have Q:=aA.trans v;have bd:=(T.trans v).size;have bx:=b5.lt;have a6:=b8.lt;have be:w2.heap.size<=g8:=aj;have k4:=Y.cell 0;have z4:=Y.frozen 0;clear T v b4 b5 b8 ap O aA;go_upto_region 4 with fail
 clear k4 z4;have ad:=dX f 128 #[()];have a8:=(cY f).alloc (.cells #[()] 128);have bb:(f.alloc (.cells #[()] 128)).heap.size=f.heap.size+1:=sM;have L:=dX (f.alloc (.cells #[()] 128)) 4 #[.bool true];rw [bb] at L;have ay:=(cY (f.alloc (.cells #[()] 128))).alloc (.cells #[.bool true] 4);have bc:((f.alloc (.cells #[()] 128)).alloc (.cells #[.bool true] 4)).heap.size=f.heap.size+1+1:=sM;have az:=dX ((f.alloc (.cells #[()] 128)).alloc (.cells #[.bool true] 4)) 31 #[(0:Int),.slice (some f.heap.size) 1 1,.slice (some ⟨f.heap.size+1,0,none⟩) 1 1];rw [bc] at az;have ab:=(cY ((f.alloc (.cells #[()] 128)).alloc (.cells #[.bool true] 4))).alloc (.cells #[(0:Int),.slice (some f.heap.size) 1 1,.slice (some ⟨f.heap.size+1,0,none⟩) 1 1] 31);replace ad:=ad.ext (ay.trans ab);replace L:=L.ext ab;have hm:=a8.trans (ay.trans ab);have I:=Y.ext hm;have aO:=aN.ext hm;have aR:=aQ.ext hm;have ar:=aq.ext hm;have k4:=I.cell 0;have z4:=I.frozen 0;have af:=Q.trans hm;clear a8 ay ab hm bb bc Y aN aQ aq;go_upto_region 5 with fail
 have bt:w.heap.size<f.heap.size:=oH Q.size;generalize f.heap.size=V at *;generalize ((f.alloc _).alloc _).alloc _=w6 at *;have g:=Frm.setCell w6 w.heap.size 0 (.pointer (some ⟨V+1+1,0,none⟩));have aL:Blk (w6.setCell w.heap.size (.pointer (some ⟨V+1+1,0,none⟩))) w.heap.size 187 #[.pointer (some ⟨V+1+1,0,none⟩)]:=by simpa using I.ab 0 (.pointer (some ⟨V+1+1,0,none⟩))
 have aP:=aO.frm g oM;have aS:=aR.frm g oM;have am:=ad.frm g oM;have an:=L.frm g oM;have ao:=az.frm g oM;have aB:=af.frm g (fun k hk e=>oM);have au:PtAt (w6.setCell w.heap.size (.pointer (some ⟨V+1+1,0,none⟩))) lo hi A k w2.heap.size g8 M ss:=by
  obtain⟨bs,hr,bz⟩:=ar.mov;exact⟨HS.out _ aB,bs,hr.frm g (fun k Z h2 e=>oM),bz.frm g (fun b cs hB e=>by
   subst e;exact absurd rfl (hB.ne I dM))⟩
 clear ad L az I aO aR ar g k4 z4;generalize w6.setCell w.heap.size (.pointer (some ⟨V+1+1,0,none⟩))=f at *;obtain⟨ga,B,m1,d1,B',G,E,aC,ax,ai,aX,aT⟩:∃ (ga:Nat) (B:Option Addr) (m1 d1:Nat) (B':Option Addr) (G E aC ax:Nat),Blk f w.heap.size 187 #[.pointer (some ga)]∧Blk f ga 31 #[a.al,.slice B m1 d1,.slice B' G E]∧zH f aC ax B m1 B' G a:=by
  refine⟨V+1+1,some ⟨V,0,none⟩,1,1,some ⟨V+1,0,none⟩,1,1,V,V+2,aL,by rw [aw.out];exact ao,?_⟩;rw [aw.out];refine⟨⟨rfl,[.slice none 0 0],reads_blk am (Nat.le_refl _) oM,rfl,fun i row l hr hl=>?_⟩,rfl,reads_blk an oM oM⟩;cases i with
  |zero =>
   simp at hr;simp [free] at hl;subst hr;subst hl;exact⟨none,0,rfl,Reads.nil⟩
  |succ i=>simp at hr
 have aU:=za (fun W (hW:Ext f W)=>ai.ext hW);have aV:=za (fun W (hW:Ext f W)=>aP.ext hW);have bo:=za (fun W (hW:Ext f W)=>aS.ext hW);have a0:=za (fun W (hW:Ext f W)=>au.ext hW);have H:=za (fun W (hW:Ext f W)=>aX.ext hW);have aJ:=za (fun W (hW:Ext f W)=>aT.ext hW);have bg:=aB;clear aB af Q am an ao aL aP aS au aX aT ai bt a6 aj be bx bd
 go_cut [10,11] (fun v10 v11 wx=>∃ (g10 g11:Nat) (UA RA:Option Addr) (uc rc:Nat),v10=.pointer (some g10)∧v11=.pointer (some g11)∧Ext f wx∧Blk wx g10 177 #[.slice UA a.next.length uc]∧Blk wx g11 177 #[.slice RA p.next.length rc]∧TbO wx UA uc a∧TbO wx RA rc p)
 case first =>
  have c4:∀ W,Ext f W->W.cell? w.heap.size=some (.pointer (some ga)):=fun W hW=>by rw [(aU.out W hW).cell];rfl
  have ca:∀ W,Ext f W->∀ j,W.cell? ⟨ga,j,none⟩=#[Value.int .i64 a.al,.slice B m1 d1,.slice B' G E][j]?:=fun W hW=>(H.out W hW).cell;have c5:∀ W,Ext f W->∀ j,W.cell? ⟨w.heap.size+1,j,none⟩=#[Value.int .i64 p.al,.slice C m2 d2,.slice C' m2' d2'][j]?:=fun W hW=>(aV.out W hW).cell;have hTA:=za (fun W (hW:Ext f W)=>zcM (d:=d1) (d':=E) (aJ.out W hW) Hv.out);have hTP:=za (fun W (hW:Ext f W)=>zcM (d:=d2) (d':=d2') (HP.out W (bg.trans hW)) Hp.out);have R:=cY f;refine uR (fun X=>Ext f X) [5,8,9] (zv.app [0,4] (zv.three 1 (zv.app [2] (zv.three 3 (zv.three 5 (zv.two 6 (zv.of [7,8,9]) 7 (zv.of [6,8,9])) 6 (zv.two 5 (zv.of [7,8,9]) 7 (zv.of [5,8,9])) 7 (zv.two 5 (zv.of [6,8,9]) 6 (zv.of [5,8,9]))) 6 (zv.two 3 (zv.two 5 (zv.of [7,8,9]) 7 (zv.of [5,8,9])) 7 (zv.of [3,5,8,9])) 7 (zv.two 3 (zv.two 5 (zv.of [6,8,9]) 6 (zv.of [5,8,9])) 6 (zv.of [3,5,8,9])))) 6 (zv.two 1 (zv.app [2] (zv.two 3 (zv.two 5 (zv.of [7,8,9]) 7 (zv.of [5,8,9])) 7 (zv.of [3,5,8,9]))) 7 (zv.of [1,2,3,5,8,9])) 7 (zv.two 1 (zv.app [2] (zv.two 3 (zv.two 5 (zv.of [6,8,9]) 6 (zv.of [5,8,9])) 6 (zv.of [3,5,8,9]))) 6 (zv.of [1,2,3,5,8,9])))) ?_;refine uQ ?_;have hx0:Ext f f.drew:=R.drew;generalize f.drew=o at *;refine uQ ?_;refine zaV (fun K hK=>?_) (fun K hK=>?_) (fun K hK=>?_)
  ·go_simp;refine hK.out _ _ hx0 ?_;refine pT ?_;refine uQ ?_;refine zaV (fun K hK=>?_) (fun K hK=>?_) (fun K hK=>?_)
   ·go_simp;refine (hTA.out _ hx0).mono ?_;rintro e w20 ⟨UA,uc,rfl,hA,hx1⟩;replace hx0:=hx0.trans hx1;clear hx1;refine hK.out _ _ hx0 ?_;refine pT ?_;refine zaV (fun K hK=>?_) (fun K hK=>?_) (fun K hK=>?_)
    ·go_simp;refine (hTP.out _ hx0).mono ?_;rintro e w21 ⟨RA,rc,rfl,hP,hx1⟩;replace hx0:=hx0.trans hx1;replace hA:=hA.ext hx1;clear hx1;refine hK.out _ _ hx0 ?_;refine pT ?_;refine zn (fun K hK=>?_) (fun K hK=>?_)
     ·go_simp;have hGh10:=hx0.size;have hx1:=(cY w21).alloc (.cells #[()] 177);replace hx0:=hx0.trans hx1;replace hA:=hA.ext hx1;replace hP:=hP.ext hx1;clear hx1;refine hK.out _ _ hx0 ?_;refine pT ?_;generalize U0:w21.alloc _=w22 at *;have h10:=dZ U0;clear U0;generalize w21.heap.size=g10 at *;exact yD06a5
     ·go_simp;have hGh11:=hx0.size;have hx1:=(cY w21).alloc (.cells #[()] 177);replace hx0:=hx0.trans hx1;replace hA:=hA.ext hx1;replace hP:=hP.ext hx1;clear hx1;refine hK.out _ _ hx0 ?_;refine pT ?_;generalize U0:w21.alloc _=w22 at *;have h11:=dZ U0;clear U0;generalize w21.heap.size=g11 at *;exact yD06a6
    ·go_simp;have hGh10:=hx0.size;have hx1:=(cY w20).alloc (.cells #[()] 177);replace hx0:=hx0.trans hx1;replace hA:=hA.ext hx1;clear hx1;refine hK.out _ _ hx0 ?_;refine pT ?_;generalize U0:w20.alloc _=w21 at *;have h10:=dZ U0;clear U0;generalize w20.heap.size=g10 at *;refine zn (fun K hK=>?_) (fun K hK=>?_)
     ·go_simp;refine (hTP.out _ hx0).mono ?_;rintro e w22 ⟨RA,rc,rfl,hP,hx1⟩;replace hx0:=hx0.trans hx1;replace h10:=h10.ext hx1;replace hA:=hA.ext hx1;clear hx1;refine hK.out _ _ hx0 ?_;refine pT ?_;exact yD06a5
     ·go_simp;have hne:=eW h10.lt;have hGh11:=hx0.size;have hx1:=(cY w21).alloc (.cells #[()] 177);replace hx0:=hx0.trans hx1;replace h10:=h10.ext hx1;replace hA:=hA.ext hx1;clear hx1;refine hK.out _ _ hx0 ?_;refine pT ?_;generalize U0:w21.alloc _=w22 at *;have h11:=dZ U0;clear U0;generalize w21.heap.size=g11 at *;exact yD06a7
    ·go_simp;have hGh11:=hx0.size;have hx1:=(cY w20).alloc (.cells #[()] 177);replace hx0:=hx0.trans hx1;replace hA:=hA.ext hx1;clear hx1;refine hK.out _ _ hx0 ?_;refine pT ?_;generalize U0:w20.alloc _=w21 at *;have h11:=dZ U0;clear U0;generalize w20.heap.size=g11 at *;refine zn (fun K hK=>?_) (fun K hK=>?_)
     ·go_simp;refine (hTP.out _ hx0).mono ?_;rintro e w22 ⟨RA,rc,rfl,hP,hx1⟩;replace hx0:=hx0.trans hx1;replace h11:=h11.ext hx1;replace hA:=hA.ext hx1;clear hx1;refine hK.out _ _ hx0 ?_;refine pT ?_;exact yD06a6
     ·go_simp;have hne:=eW h11.lt;have hGh10:=hx0.size;have hx1:=(cY w21).alloc (.cells #[()] 177);replace hx0:=hx0.trans hx1;replace h11:=h11.ext hx1;replace hA:=hA.ext hx1;clear hx1;refine hK.out _ _ hx0 ?_;refine pT ?_;generalize U0:w21.alloc _=w22 at *;have h10:=dZ U0;clear U0;generalize w21.heap.size=g10 at *;exact yD06a7
   ·go_simp;have hGh10:=hx0.size;have hx1:=(cY o).alloc (.cells #[()] 177);replace hx0:=hx0.trans hx1;clear hx1;refine hK.out _ _ hx0 ?_;refine pT ?_;generalize U0:o.alloc _=w20 at *;have h10:=dZ U0;clear U0;generalize o.heap.size=g10 at *;exact yD06a2
   ·go_simp;have hGh11:=hx0.size;have hx1:=(cY o).alloc (.cells #[()] 177);replace hx0:=hx0.trans hx1;clear hx1;refine hK.out _ _ hx0 ?_;refine pT ?_;generalize U0:o.alloc _=w20 at *;have h11:=dZ U0;clear U0;generalize o.heap.size=g11 at *;exact yD06a1
  ·go_simp;have hGh10:=hx0.size;have hx1:=(cY o).alloc (.cells #[()] 177);replace hx0:=hx0.trans hx1;clear hx1;refine hK.out _ _ hx0 ?_;refine pT ?_;generalize U0:o.alloc _=w20 at *;have h10:=dZ U0;clear U0;generalize o.heap.size=g10 at *;refine zn (fun K hK=>?_) (fun K hK=>?_)
   ·go_simp;refine hK.out _ _ hx0 ?_;refine pT ?_;refine uQ ?_;exact yD06a2
   ·go_simp;have hne:=eW h10.lt;have hGh11:=hx0.size;have hx1:=(cY w20).alloc (.cells #[()] 177);replace hx0:=hx0.trans hx1;replace h10:=h10.ext hx1;clear hx1;refine hK.out _ _ hx0 ?_;refine pT ?_;generalize U0:w20.alloc _=w21 at *;have h11:=dZ U0;clear U0;generalize w20.heap.size=g11 at *;exact yD06a4
  ·go_simp;have hGh11:=hx0.size;have hx1:=(cY o).alloc (.cells #[()] 177);replace hx0:=hx0.trans hx1;clear hx1;refine hK.out _ _ hx0 ?_;refine pT ?_;generalize U0:o.alloc _=w20 at *;have h11:=dZ U0;clear U0;generalize o.heap.size=g11 at *;refine zn (fun K hK=>?_) (fun K hK=>?_)
   ·go_simp;refine hK.out _ _ hx0 ?_;refine pT ?_;refine uQ ?_;exact yD06a1
   ·go_simp;have hne:=eW h11.lt;have hGh10:=hx0.size;have hx1:=(cY w20).alloc (.cells #[()] 177);replace hx0:=hx0.trans hx1;replace h11:=h11.ext hx1;clear hx1;refine hK.out _ _ hx0 ?_;refine pT ?_;generalize U0:w20.alloc _=w21 at *;have h10:=dZ U0;clear U0;generalize w20.heap.size=g10 at *;exact yD06a4
 case rest =>
  obtain⟨g10,g11,UA,RA,uc,rc,rfl,rfl,t,h10,h11,hA,hP⟩:=hcut;have aY:=za (fun W (hW:Ext wc W)=>h10.ext hW);have aZ:=za (fun W (hW:Ext wc W)=>h11.ext hW);have af:=bg.trans t;go_upto_region 6 with fail
  go_cut [12,13] (fun v12 v13 wx=>∃ (g12 g13:Nat),v12=.pointer (some g12)∧v13=.pointer (some g13)∧Ext wc wx∧Blk wx g12 3 #[.int .i64 (a.next.length:Nat)]∧Blk wx g13 3 #[.int .i64 (p.next.length:Nat)])
  case first =>
   have bX:∀ W,Ext wc W->W.cell? g10=some (.slice UA a.next.length uc):=fun W hW=>by rw [(aY.out W hW).cell];rfl
   have bY:∀ W,Ext wc W->W.cell? g11=some (.slice RA p.next.length rc):=fun W hW=>by rw [(aZ.out W hW).cell];rfl
   have R:=cY wc;clear h10 h11 hA hP;refine uR (fun X=>Ext wc X) [7] (zv.app [0,1,2,3] (zv.two 4 (zv.of [5,6,7]) 5 (zv.of [4,6,7]))) ?_;refine uQ ?_;have hx0:Ext wc wc.drew:=R.drew;generalize wc.drew=o at *;refine uQ ?_;refine zn (fun K hK=>?_) (fun K hK=>?_)
   ·go_simp;have hGh12:=hx0.size;have hx1:=(cY o).alloc (.cells #[(0:Int)] 3);replace hx0:=hx0.trans hx1;clear hx1;refine hK.out _ _ hx0 ?_;refine pT ?_;generalize U0:o.alloc _=w20 at *;have h12:=dZ U0;clear U0;generalize o.heap.size=g12 at *;refine ze fun K hK=>?_;go_simp;have hne:=eW h12.lt;have hGh13:=hx0.size;have hx1:=(cY w20).alloc (.cells #[(0:Int)] 3);replace hx0:=hx0.trans hx1;replace h12:=h12.ext hx1;clear hx1;refine hK.out _ _ hx0 ?_;refine pT ?_;generalize U0:w20.alloc _=w21 at *;have h13:=dZ U0;clear U0;generalize w20.heap.size=g13 at *;exact yD06a8
   ·go_simp;have hGh13:=hx0.size;have hx1:=(cY o).alloc (.cells #[(0:Int)] 3);replace hx0:=hx0.trans hx1;clear hx1;refine hK.out _ _ hx0 ?_;refine pT ?_;generalize U0:o.alloc _=w20 at *;have h13:=dZ U0;clear U0;generalize o.heap.size=g13 at *;refine ze fun K hK=>?_;go_simp;have hne:=eW h13.lt;have hGh12:=hx0.size;have hx1:=(cY w20).alloc (.cells #[(0:Int)] 3);replace hx0:=hx0.trans hx1;replace h13:=h13.ext hx1;clear hx1;refine hK.out _ _ hx0 ?_;refine pT ?_;generalize U0:w20.alloc _=w21 at *;have h12:=dZ U0;clear U0;generalize w20.heap.size=g12 at *;exact yD06a8
  case rest =>
   obtain⟨g12,g13,rfl,rfl,r,h12,h13⟩:=hcut;rename World=>w7
   have hw9:=af.trans r;have hC:BCaps w7 g8 g10 g11 g12 g13 A M UA RA k c dm uc rc ss a p:=by
    obtain⟨bG,bu,bD⟩:=hA.at_;obtain⟨bH,bw,bC⟩:=hP.at_;exact⟨bo.out _ (t.trans r),h10.ext r,h11.ext r,h12,h13,⟨_,_,_,_,a0.out _ (t.trans r)⟩,⟨bG,bu,bD.ext r⟩,⟨bH,bw,bC.ext r⟩⟩
   have av:GCaps w7 w.heap.size ga (w.heap.size+1) g12 g13 a p:=⟨aU.out _ (t.trans r),⟨B,m1,d1,B',G,E,aC,ax,H.out _ (t.trans r),aJ.out _ (t.trans r)⟩,⟨C,m2,d2,C',m2',d2',lo2,hi2,aV.out _ (t.trans r),HP.out _ hw9⟩,h12,h13⟩;obtain⟨N,hN⟩:∃ N:Nat,Hid (zM (zbo ss [a,p])=N):=⟨_,rfl⟩;obtain⟨⟨_,bK⟩,⟨_,bI⟩⟩:=And.intro (zl Hv.out).2.1 (zl Hp.out).2.1;obtain⟨⟨n1,_⟩,⟨bJ,_⟩⟩:=And.intro (zl Hv.out).2.1 (zl Hp.out).2.1;obtain⟨S,hS⟩:∃ S:Nat,Hid (zM (ss.map zeh)=S):=⟨_,rfl⟩;have a1:1<=S∧S<=4096:=by
    rw [← hS.out];refine⟨zeq F.out,Nat.le_trans (zdE F.out) ?_⟩;have:=(HS.out w (cY _)).1
    calc 16 ^ ss.length<=16 ^ 3:=eH oM oM
     _=4096:=dM
   have aa:S*a.next.length*p.next.length=N:=by
    rw [← hN.out,← hS.out,show zbo ss [a,p]=ss.map zeh++[zbJ a,zbJ p] from rfl,zcf];simp [zM,zaA,zbJ,Nat.mul_assoc]
   have a2:S*a.next.length<=4096*12:=Nat.mul_le_mul a1.2 bK;have bQ:N<=4096*12*12:=by rw [← aa];exact Nat.mul_le_mul a2 bI
   have b3:1<=N:=by rw [← aa];exact Nat.mul_pos (Nat.mul_pos a1.1 n1) bJ
   obtain⟨sn,bf⟩:∃ z:Nat,Hid (S*a.next.length=z):=⟨_,rfl⟩;rw [bf.out] at aa a2;have bT:(S:Int)*(a.next.length:Int)=(sn:Int):=by rw [← bf.out];exact (fW S _).symm
   have b6:(sn:Int)*(p.next.length:Int)=(N:Int):=by rw [← aa];exact (fW sn _).symm
   have Hd:=za (show ∀ x l,x<N->l<6->∀ y∈zcn ss a p x l,y<N from fun x l _ hl y hy=>by
    rw [zdy] at hy;rw [← hN.out];refine zjd (fun mm hmm=>?_) hl y hy;rcases List.mem_append.1 hmm with Z|Z
    ·obtain⟨s,bB,rfl⟩:=List.mem_map.1 Z;exact zeJ (F.out s bB)
    ·obtain⟨b,a4,rfl⟩:=List.mem_map.1 Z;simp at a4;rcases a4 with rfl|rfl
     ·exact zbK Hv.out
     ·exact zbK Hp.out)
   have bl:=za (show ∀ x l,(zcn ss a p x l).length<=4096 from fun x l=>by
    unfold zcn;rw [List.length_map];refine Nat.le_trans (nx_len F.out _ l) ?_;have:=(HS.out w (cY _)).1
    calc 16 ^ ss.length<=16 ^ 3:=eH oM oM
     _=4096:=by decide)
   have u:=za (zgN (U|||al));have key:=za (fun W (hW:Ext w7 W) A1 c1 AL q' cL (hA1:zay W A1 1 [0]) (hL:zay W AL q' (letters (U|||al) 6))=>zfW (w:=W) (N:=N) (kn:=179) (kg:=181) (m:=1) (c:=c1) (cL:=cL)
    (capn:=#[.pointer (some g10),.pointer (some g13),.pointer (some g12),.pointer (some g11),.pointer (some g8)])
    (capg:=#[.pointer (some w.heap.size),.pointer (some g13),.pointer (some g12),.pointer (some ⟨w.heap.size+1,0,none⟩)])
    (goal:=zbW a p) (d:=zcn ss a p) (D:=4096) hA1 (fun n hn=>by simp at hn;omega) oM hL u.out oM oM (fun args W=>kM) (fun args W=>kM)
    (fun W' hW' n hn=>brk_goal (av.ext (hW.trans hW')) Hv.out Hp.out oM)
    (fun n l hn hl=>⟨bl.out n l,Hd.out n l hn (u.out.1 l hl)⟩)
    (fun W' hW' n l hn hl base A m c xs hb0 hb hm zkh=>brk_next (hC.ext hW) (HT.out _ (hw9.trans hW)) hW' F.out a7 Hv.out Hp.out (by rw [hN.out];exact hn) (u.out.1 l hl) hb0 hb hm zkh))
   have hSZ:=za (show ∀ W,Ext w7 W->Calls Tryz.prog 183 #[.agg #[.slice A k c,.slice M k dm]] W fun e w'=>e=.returned (.int .i64 (S:Nat))∧Ext W w' from fun W hW=>by
    have:=zjc (c:=c) (dm:=dm) (a0.out W ((t.trans r).trans hW)) F.out a7;rw [hS.out] at this;exact this)
   have hLT:=za (fun W=>zar (U|||al) (by have:=eR (n:=6) (x:=U) (y:=al) oM oM;unfold Sm;omega) W);have b9:bits .or .i64 (U:Int) (al:Int)=((U|||al:Nat):Int):=zcm tM tM;have c8:=fun W (hW:Ext w7 W)=>(hC.h8.ext hW).cell;have bZ:∀ W,Ext w7 W->W.cell? g12=some (.int .i64 (a.next.length:Nat)):=fun W hW=>by rw [(hC.h12.ext hW).cell];rfl
   have b0:∀ W,Ext w7 W->W.cell? g13=some (.int .i64 (p.next.length:Nat)):=fun W hW=>by rw [(hC.h13.ext hW).cell];rfl
   have c4:∀ W,Ext w7 W->W.cell? w.heap.size=some (.pointer (some ga)):=fun W hW=>by rw [(av.h4.ext hW).cell];rfl
   have ca:∀ W,Ext w7 W->∀ j,W.cell? ⟨ga,j,none⟩=#[Value.int .i64 (al:Nat),.slice B m1 d1,.slice B' G E][j]?:=fun W hW=>by
    have:=(H.out W ((t.trans r).trans hW)).cell;rw [J.out] at this;exact this
   have cb:IntKind.i64.wrap (sn:Int)=(sn:Int):=zhq sn oM;have O:IntKind.i64.wrap (N:Int)=(N:Int):=zhq N oM;have R:=cY w7;clear hC av h10 h11 h12 h13 hA hP;go_upto_region 9 with fail
   refine uR (fun X=>Ext w7 X) [16] (zv.app [0,2,4,7,8,14,15] (zv.three 1 (zv.app [3,5] (zv.two 6 (zv.of [9,10,11,12,13,16,17,18,19,20]) 9 (zv.app [10,11,12] (zv.two 6 (zv.of [13,16,17,18,19,20]) 13 (zv.of [6,16,17,18,19,20]))))) 6 (zv.two 1 (zv.of [3,5,9,10,11,12,13,16,17,18,19,20]) 9 (zv.of [10,11,12,1,3,5,13,16,17,18,19,20])) 9 (zv.app [10,11,12] (zv.two 1 (zv.app [3,5] (zv.two 6 (zv.of [13,16,17,18,19,20]) 13 (zv.of [6,16,17,18,19,20]))) 6 (zv.of [1,3,5,13,16,17,18,19,20]))))) ?_;refine uQ ?_;have hx0:Ext w7 w7.drew:=R.drew;generalize w7.drew=o at *;refine uQ ?_;refine zaV (fun K hK=>?_) (fun K hK=>?_) (fun K hK=>?_)
   ·go_simp;refine (hSZ.out _ hx0).mono (mQ fun w20 hx1=>?_);replace hx0:=hx0.trans hx1;clear hx1;refine hK.out _ _ hx0 ?_;refine pT ?_;refine uQ ?_;refine zn (fun K hK=>?_) (fun K hK=>?_)
    ·go_simp;have hI:=zdC (x:=0) (dX w20 3 #[.int .i64 ((0:Nat):Int)]);have hx1:=(cY w20).alloc (.cells #[.int .i64 ((0:Nat):Int)] 3);replace hx0:=hx0.trans hx1;clear hx1;refine hK.out _ _ hx0 ?_;refine pT ?_;generalize w20.alloc _=w21 at *;generalize w20.heap.size=g1 at *;exact yD06a10
    ·go_simp;exact yD06a3
   ·go_simp;have hI:=zdC (x:=0) (dX o 3 #[.int .i64 ((0:Nat):Int)]);have hx1:=(cY o).alloc (.cells #[.int .i64 ((0:Nat):Int)] 3);replace hx0:=hx0.trans hx1;clear hx1;refine hK.out _ _ hx0 ?_;refine pT ?_;generalize o.alloc _=w20 at *;generalize o.heap.size=g1 at *;refine zn (fun K hK=>?_) (fun K hK=>?_)
    ·go_simp;refine (hSZ.out _ hx0).mono (mQ fun w21 hx1=>?_);replace hx0:=hx0.trans hx1;replace hI:=hI.ext hx1;clear hx1;refine hK.out _ _ hx0 ?_;refine pT ?_;refine uQ ?_;exact yD06a10
    ·go_simp;refine hK.out _ _ hx0 ?_;refine pT ?_;refine uQ ?_;exact yD06a9
   ·go_simp;refine hK.out _ _ hx0 ?_;refine pT ?_;refine uQ ?_;refine zn (fun K hK=>?_) (fun K hK=>?_)
    ·go_simp;refine (hSZ.out _ hx0).mono (mQ fun w20 hx1=>?_);replace hx0:=hx0.trans hx1;clear hx1;exact yD06a3
    ·go_simp;have hI:=zdC (x:=0) (dX o 3 #[.int .i64 ((0:Nat):Int)]);have hx1:=(cY o).alloc (.cells #[.int .i64 ((0:Nat):Int)] 3);replace hx0:=hx0.trans hx1;clear hx1;refine hK.out _ _ hx0 ?_;refine pT ?_;generalize o.alloc _=w20 at *;generalize o.heap.size=g1 at *;exact yD06a9
section
variable {lo hi n c:Nat} {A:Option Addr} {s:Sys} {lo1 hi1 m1 d1 m1' d1':Nat} {B B':Option Addr} {a:Aut} {lo2 hi2 m2 d2 m2' d2':Nat} {C C':Option Addr} {p:Aut} {w:World}
theorem zdl (h:zP w lo hi A n s)(ha:zH w lo1 hi1 B m1 B' m1' a)(hp:zH w lo2 hi2 C m2 C' m2' p)(hT:Tab w) :
  Calls Tryz.prog 82 #[.agg #[s.al,s.st,.slice A n c],.agg #[a.al,.slice B m1 d1,.slice B' m1' d1'],.agg #[p.al,.slice C m2 d2,.slice C' m2' d2']] w fun e w'=>e=.returned (.tuple #[.string (zbB s a p),.bool (zcw s a p)])∧Ext w w':=by
 have HT:=za (fun W (hW:Ext w W)=>hT.ext hW);have D:=za (fun W (hW:Ext w W)=>h.ext hW);have y:=za (fun W (hW:Ext w W)=>ha.ext hW);have z:=za (fun W (hW:Ext w W)=>hp.ext hW);have O:=za (fun W (hW:Ext w W)=>zak (c:=c) (h.ext hW));have L:=za (fun W (hW:Ext w W)=>zF _ _ _ _ d1 _ _ d1' _ _ (ha.ext hW));have M:=za (fun W (hW:Ext w W)=>zF _ _ _ _ d2 _ _ d2' _ _ (hp.ext hW));clear h ha hp hT;have j:Ext w (((w.alloc (.cells #[s.al,s.st,.slice A n c] 38)).alloc (.cells #[a.al,.slice B m1 d1,.slice B' m1' d1'] 31)).alloc (.cells #[p.al,.slice C m2 d2,.slice C' m2' d2'] 31)):=(((cY w).alloc _).alloc _).alloc _;obtain⟨t,u,v⟩:=zL (cY (((w.alloc (.cells #[s.al,s.st,.slice A n c] 38)).alloc (.cells #[a.al,.slice B m1 d1,.slice B' m1' d1'] 31)).alloc (.cells #[p.al,.slice C m2 d2,.slice C' m2' d2'] 31)))
 by_cases hT:zcQ s a p=true
 ·have q:=za (show zbB s a p=vioW [s] a p∧zcw s a p=vioB [s] a p by unfold zbB zcw;rw [hT];exact⟨rfl,sM⟩);unfold zcQ at hT;simp only [dJ] at hT;obtain⟨I,X,Y⟩:=hT;have G:=za (show zA [s]=true by simp [zA,I]);have V1:=za I;have Q:=za X;have R:=za Y;clear I X Y
  go_enter Tryz.func82,Tryz.ntmps82
  go_upto_region 1 with fail
  generalize ((w.alloc _).alloc _).alloc _=w1 at *;have S:=t.cell;go_upto_region 3 with (first
   |(go_at_call 108;with_reducible refine (O.out _ j).mono ?_;rw [V1.out];rintro e w2 ⟨rfl,hx2⟩;have b:=j.trans hx2;have T:=(u.ext hx2).cell)
   |(go_at_call 95;with_reducible refine (L.out _ b).mono ?_;rw [Q.out];rintro e w3 ⟨rfl,f⟩;have d:=b.trans f;have U:=(v.ext (hx2.trans f)).cell)
   |(go_at_call 95;with_reducible refine (M.out _ d).mono ?_;rw [R.out];rintro e J ⟨rfl,k⟩;have m:=d.trans k))
  have i:=hx2.trans (f.trans k);have k1:=(t.ext i).cell;have V:=dX J 38 #[s.al,s.st,.slice A n c];have E:=(cY J).alloc (.cells #[s.al,s.st,.slice A n c] 38);have k3:=(v.ext (i.trans E)).cell;have o:=u.ext (i.trans E);have g:=m.trans E;obtain⟨l1,x,r⟩:=zjg V (D.out _ g);have HF:=za (zhg (c:=1) (d2:=d2) (d2':=d2') r G.out (HT.out _ g) o (y.out _ g) Q.out (z.out _ g) R.out);clear S T U t u v r V o;go_wp2_with (go_at_call 102;refine HF.out.mono ?_;rintro e w6 hF;obtain⟨rfl,H⟩:=hF.first (zcC _))
  go_ret2;exact⟨by rw [q.out.1,q.out.2];rfl,g.trans H⟩
 ·have l:zcQ s a p=false:=by simpa using hT
  have q:=za (show zbB s a p=ByteArray.empty∧zcw s a p=false by unfold zbB zcw;rw [l];exact⟨rfl,rfl⟩);have F:=za (show (zk s&&(zj a&&zj p))=false from l);clear hT l;cases x:zk s<;>cases h2:zj a<;>cases h3:zj p
  all_goals first
   |(exfalso;have:=F.out;rw [x,h2,h3] at this;cases this;done)
   |(have Z:=za x
     have H2:=za h2;have H3:=za h3;clear x h2 h3
     go_enter Tryz.func82,Tryz.ntmps82
     go_upto_region 1 with fail
     generalize ((w.alloc _).alloc _).alloc _=w1 at *;have S:=t.cell;go_wp2_with (first
      |(go_at_call 108;with_reducible refine (O.out _ j).mono ?_;rw [Z.out];rintro e w2 ⟨rfl,hx2⟩;have b:=j.trans hx2;have T:=(u.ext hx2).cell)
      |(go_at_call 95;with_reducible refine (L.out _ b).mono ?_;rw [H2.out];rintro e w3 ⟨rfl,f⟩;have d:=b.trans f;have U:=(v.ext (hx2.trans f)).cell)
      |(go_at_call 95;with_reducible refine (M.out _ d).mono ?_;rw [H3.out];rintro e J ⟨rfl,k⟩;have m:=d.trans k))
     go_ret2;exact⟨by rw [q.out.1,q.out.2];rfl,by first|exact m|exact d|exact b⟩)
theorem zhO (h:zP w lo hi A n s)(ha:zH w lo1 hi1 B m1 B' m1' a)(hp:zH w lo2 hi2 C m2 C' m2' p)(hT:Tab w) :
  Calls Tryz.prog 100 #[.agg #[s.al,s.st,.slice A n c],.agg #[a.al,.slice B m1 d1,.slice B' m1' d1'],.agg #[p.al,.slice C m2 d2,.slice C' m2' d2']] w fun e w'=>e=.returned (.bool (zbw s a p))∧Ext w w':=by
 have z:=za (fun W (hW:Ext w W)=>zdl (c:=c) (d1:=d1) (d1':=d1') (d2:=d2) (d2':=d2') (h.ext hW) (ha.ext hW) (hp.ext hW) (hT.ext hW));have y:=za (fun W (hW:Ext w W)=>zak (c:=c) (h.ext hW));have v:=za (fun W (hW:Ext w W)=>zF _ _ _ _ d1 _ _ d1' _ _ (ha.ext hW));have x:=za (fun W (hW:Ext w W)=>zF _ _ _ _ d2 _ _ d2' _ _ (hp.ext hW));have G:=za (show zbw s a p=((zk s&&(zj a&&zj p))&&!zcw s a p) from zeS s a p);clear h ha hp hT;generalize zcw s a p=H at *;generalize zbB s a p=M at *;have g:Ext w (((w.alloc (.cells #[s.al,s.st,.slice A n c] 38)).alloc (.cells #[a.al,.slice B m1 d1,.slice B' m1' d1'] 31)).alloc (.cells #[p.al,.slice C m2 d2,.slice C' m2' d2'] 31)):=(((cY w).alloc _).alloc _).alloc _;obtain⟨r,t,u⟩:=zL (cY (((w.alloc (.cells #[s.al,s.st,.slice A n c] 38)).alloc (.cells #[a.al,.slice B m1 d1,.slice B' m1' d1'] 31)).alloc (.cells #[p.al,.slice C m2 d2,.slice C' m2' d2'] 31)));cases h1:zk s<;>cases h2:zj a<;>cases h3:zj p<;>cases H
 all_goals
  have m:=za h1;have o:=za h2;have q:=za h3;clear h1 h2 h3
  go_enter Tryz.func100,Tryz.ntmps100
  go_upto_region 1 with fail
  generalize ((w.alloc _).alloc _).alloc _=O at *;have I:=r.cell;have J:=t.cell;have L:=u.cell;go_wp2_with (first
   |(go_at_call 82;refine (z.out _ g).mono (mQ fun Q hx2=>?_);have i:=g.trans hx2;have D:=(r.ext hx2).cell)
   |(go_at_call 108;with_reducible refine (y.out _ i).mono ?_;rw [m.out];rintro e R ⟨rfl,f⟩;have b:=i.trans f;have E:=(t.ext (hx2.trans f)).cell)
   |(go_at_call 95;with_reducible refine (v.out _ b).mono ?_;rw [o.out];rintro e S ⟨rfl,j⟩;have d:=b.trans j;have F:=(u.ext (hx2.trans (f.trans j))).cell)
   |(go_at_call 95;with_reducible refine (x.out _ d).mono ?_;rw [q.out];rintro e T ⟨rfl,l⟩;have k:=d.trans l))
  go_ret;exact⟨zm (by rw [G.out,m.out,o.out,q.out];rfl),by first|exact k|exact d|exact b⟩
variable {k:Nat} {ss:List Sys}
theorem zbY (h:zgL w lo hi A k ss)(hp:zH w lo2 hi2 C m2 C' m2' p)(hT:Tab w) :
  Calls Tryz.prog 49 #[.slice A k c,.agg #[p.al,.slice C m2 d2,.slice C' m2' d2']] w fun e w'=>e=.returned (.tuple #[.string (zas ss p),.bool (zbG ss p)])∧Ext w w':=by
 have j:=za (fun W (hW:Ext w W)=>h.ext hW);have m:=za (fun W (hW:Ext w W)=>hp.ext hW);have s:=za (fun W (hW:Ext w W)=>hT.ext hW);clear h hp hT;have a:Ext w (w.alloc (.cells #[p.al,.slice C m2 d2,.slice C' m2' d2'] 31)):=(cY w).alloc _;have n:=dX w 31 #[p.al,.slice C m2 d2,.slice C' m2' d2'];cases hA:zA ss
 ·have g:=za (show zas ss p=ByteArray.empty∧zbG ss p=false by unfold zas zbG zcs;rw [hA];exact⟨rfl,rfl⟩);have i:=za hA;clear hA
  go_enter Tryz.func49,Tryz.ntmps49
  go_upto_region 1 with fail
  generalize w.alloc _=q at *;go_wp2_with (go_at_call 94;refine (zaL (j.out _ a)).mono ?_;rw [i.out];rintro e r ⟨rfl,hx2⟩)
  go_ret2;exact⟨by rw [g.out.1,g.out.2];rfl,a.trans hx2⟩
 ·cases hV:zj p
  ·have g:=za (show zas ss p=ByteArray.empty∧zbG ss p=false by unfold zas zbG zcs;rw [hA,hV];exact⟨rfl,rfl⟩);have l:=za hV;have i:=za hA;clear hA hV
   go_enter Tryz.func49,Tryz.ntmps49
   go_upto_region 1 with fail
   generalize w.alloc _=q at *;go_wp2_with (first
    |(go_at_call 94;refine (zaL (j.out _ a)).mono ?_;rw [i.out];rintro e r ⟨rfl,hx2⟩;have d:=a.trans hx2;have t:=(n.ext hx2).cell)
    |(go_at_call 95;refine (zF _ _ _ _ _ _ _ _ _ _ (m.out _ d)).mono ?_;rw [l.out];rintro e u ⟨rfl,f⟩;have b:=d.trans f))
   go_ret2;exact⟨by rw [g.out.1,g.out.2];rfl,b⟩
  ·have g:=za (show zas ss p=vioW ss free p∧zbG ss p=vioB ss free p by unfold zas zbG zcs;rw [hA,hV];exact⟨rfl,sM⟩);have l:=za hV;have i:=za hA;clear hA hV
   go_enter Tryz.func49,Tryz.ntmps49
   go_upto_region 1 with fail
   generalize w.alloc _=q at *;go_wp2_with (first
    |(go_at_call 94;refine (zaL (j.out _ a)).mono ?_;rw [i.out];rintro e r ⟨rfl,hx2⟩;have d:=a.trans hx2;have t:=(n.ext hx2).cell)
    |(go_at_call 95;refine (zF _ _ _ _ _ _ _ _ _ _ (m.out _ d)).mono ?_;rw [l.out];rintro e u ⟨rfl,f⟩;have b:=d.trans f;have v:=(n.ext (hx2.trans f)).cell)
    |(go_at_call 102;refine (zfi (c:=c) (d2:=d2) (d2':=d2') (j.out _ b) i.out (s.out _ b) (m.out _ b) l.out).mono ?_;rintro e x hF;obtain⟨rfl,o⟩:=hF.first (zcC _)))
   go_ret2;exact⟨by rw [g.out.1,g.out.2];rfl,b.trans o⟩
theorem ziy (h:zgL w lo hi A k ss)(hp:zH w lo2 hi2 C m2 C' m2' p)(hT:Tab w) :
  Calls Tryz.prog 41 #[.slice A k c,.agg #[p.al,.slice C m2 d2,.slice C' m2' d2']] w fun e w'=>e=.returned (.bool (zaO ss p))∧Ext w w':=by
 have q:=za (fun W (hW:Ext w W)=>zbY (c:=c) (d2:=d2) (d2':=d2') (h.ext hW) (hp.ext hW) (hT.ext hW));have o:=za (fun W (hW:Ext w W)=>h.ext hW);have n:=za (fun W (hW:Ext w W)=>hp.ext hW);have r:=za (show zaO ss p=(zA ss&&zj p&&!zbG ss p) from zel ss p);clear h hp hT;generalize zbG ss p=s at *;generalize zas ss p=v at *;have d:Ext w (w.alloc (.cells #[p.al,.slice C m2 d2,.slice C' m2' d2'] 31)):=(cY w).alloc _;have m:=dX w 31 #[p.al,.slice C m2 d2,.slice C' m2' d2'];cases hA:zA ss<;>cases hVv:zj p<;>cases s
 all_goals
  have l:=za (show zA ss=_ from hA);have b:=za hVv;clear hA hVv
  go_enter Tryz.func41,Tryz.ntmps41
  go_upto_region 1 with fail
  generalize w.alloc _=x at *;have t:=m.cell;go_wp2_with (first
   |(go_at_call 49;refine (q.out _ d).mono (mQ fun y hx2=>?_);have f:=d.trans hx2)
   |(go_at_call 94;refine (zaL (o.out _ f)).mono ?_;rw [l.out];rintro e z ⟨rfl,g⟩;have a:=f.trans g;have u:=(m.ext (hx2.trans g)).cell)
   |(go_at_call 95;refine (zF _ _ _ _ _ _ _ _ _ _ (n.out _ a)).mono ?_;rw [b.out];rintro e B ⟨rfl,j⟩;have i:=a.trans j))
  go_ret;exact⟨zm (by rw [r.out,l.out,b.out];rfl),by first|exact i|exact a⟩
theorem zgb (h:zP w lo hi A n s)(hp:zH w lo2 hi2 C m2 C' m2' p)(hT:Tab w) :
  Calls Tryz.prog 101 #[.agg #[s.al,s.st,.slice A n c],.agg #[p.al,.slice C m2 d2,.slice C' m2' d2']] w fun e w'=>e=.returned (.bool (zaO [s] p))∧Ext w w':=by
 have k:=za (fun W (hW:Ext w W)=>h.ext hW);have j:=za (fun W (hW:Ext w W)=>hp.ext hW);have l:=za (fun W (hW:Ext w W)=>hT.ext hW);clear h hp hT
 go_enter Tryz.func101,Tryz.ntmps101
 go_upto_region 1 with fail
 generalize U0:(w.alloc _).alloc _=i at *;obtain⟨d,m,o⟩:=Ext.x2_ U0;clear U0;have r:=m.cell;have q:=dX i 38 #[s.al,s.st,.slice A n c];have g:=(cY i).alloc (.cells #[s.al,s.st,.slice A n c] 38);have t:=(o.ext g).cell;have a:=d.trans g;obtain⟨v,u,b⟩:=zjg q (k.out _ a);go_wp2_with (go_at_call 41;refine (ziy b (j.out _ a) (l.out _ a)).mono (mQ fun x f=>?_))
 go_ret;exact⟨zm rfl,a.trans f⟩
end
def three (ss:List Sys) (p:Aut):Bool:=decide (ss.length=3)&&(zA ss&&zj p)
def chain1 (ss:List Sys) (p:Aut):Int:=
 if three ss p then match ss with
  |[x,y,z]=>bits .and .i64 (bits .or .i64 x.al p.al) (bits .or .i64 y.al z.al)
  |_ => -1
 else -1
def chain2 (ss:List Sys) (p:Aut):Int:=
 if three ss p then match ss with
  |[_,y,z]=>bits .and .i64 (bits .or .i64 y.al (chain1 ss p)) z.al
  |_ => -1
 else -1
theorem three_list (h:three ss p=true):∃ x y z,ss=[x,y,z]:=by
 simp only [three,dJ,decide_eq_true_eq] at h
 match ss,h.1 with
 |[x,y,z],_=>exact⟨x,y,z,rfl⟩
noncomputable def faultN (ss:List Sys) (p f g:Aut):Int:=
 if (three ss p&&(zj f&&zj g))=false then 1
 else if (decide (f.al=chain1 ss p)&&decide (g.al=chain2 ss p))=false then 2
 else match ss with
  |[x,y,z]=>if (zbw x f p&&zbw y g f)=false then 3 else if zaO [z] g=false then 4 else 0
  |_=>0
def iface (s:Sys) (p:Aut) (t:Sys):Int:=if (zk s&&(zj p&&zk t))=true then (((s.al.toNat|||p.al.toNat)&&&t.al.toNat:Nat):Int) else -1
section
variable {lo hi n c:Nat} {A:Option Addr} {s:Sys} {lo1 hi1 m1 d1 m1' d1':Nat} {B B':Option Addr} {p:Aut} {lo2 hi2 k c2:Nat} {C:Option Addr} {t:Sys} {w:World}
theorem zcV (h:zP w lo hi A n s)(hp:zH w lo1 hi1 B m1 B' m1' p)(ht:zP w lo2 hi2 C k t) :
  Calls Tryz.prog 114 #[.agg #[s.al,s.st,.slice A n c],.agg #[p.al,.slice B m1 d1,.slice B' m1' d1'],.agg #[t.al,t.st,.slice C k c2]] w fun e w'=>e=.returned (.int .i64 (iface s p t))∧Ext w w':=by
 have E:=za (fun W (hW:Ext w W)=>zam (c:=c) (h.ext hW));have D:=za (fun W (hW:Ext w W)=>zO _ _ _ _ d1 _ _ d1' _ _ (hp.ext hW));have F:=za (fun W (hW:Ext w W)=>zam (c:=c2) (ht.ext hW));clear h hp ht;cases h1:zk s<;>cases h2:zj p<;>cases h3:zk t
 case true.true.true =>
  have u:=za h1;have v:=za h2;have z:=za h3;have L:=zR h1;have M:=(zl h2).1;have O:=zR h3;obtain⟨a,G⟩:∃ a:Nat,Hid (s.al=a):=⟨s.al.toNat,by unfold Hid;omega⟩;obtain⟨b,H⟩:∃ a:Nat,Hid (p.al=a):=⟨p.al.toNat,by unfold Hid;omega⟩;obtain⟨d,I⟩:∃ a:Nat,Hid (t.al=a):=⟨t.al.toNat,by unfold Hid;omega⟩;have J:=za (show iface s p t=((((a|||b)&&&d:Nat)):Int) by unfold iface;rw [h1,h2,h3,G.out,H.out,I.out];rfl);rw [G.out] at L;rw [H.out] at M;rw [I.out] at O;have Y:a<=63:=oM;have Z:b<=63:=oM;have d6:d<=63:=oM;have S:=eR (n:=6) (x:=a) (y:=b) oM oM;have ho:=zcm (a:=a) (b:=b) tM tM;have hn:=zdx (a:=a|||b) (b:=d) tM tM;clear h1 h2 h3 L M O S;rw [G.out] at E ⊢;rw [H.out] at D ⊢;rw [I.out] at F ⊢
  go_enter Tryz.func114,Tryz.ntmps114
  go_upto_region 1 with fail
  generalize U0:((w.alloc _).alloc _).alloc _=T at *;obtain⟨l,o,q,r⟩:=jJ U0;clear U0;have Q:=o.cell;go_wp2_with (first
   |(go_at_call 199;with_reducible refine (E.out _ l).mono ?_;rw [u.out];rintro e U ⟨rfl,hx2⟩;have g:=l.trans hx2;have c2:=(q.ext hx2).cell)
   |(go_at_call 200;with_reducible refine (D.out _ g).mono ?_;rw [v.out];rintro e V ⟨rfl,f⟩;have i:=g.trans f;have R:=(r.ext (hx2.trans f)).cell)
   |(go_at_call 199;with_reducible refine (F.out _ i).mono ?_;rw [z.out];rintro e X ⟨rfl,j⟩;have m:=i.trans j;have k1:=(o.ext (hx2.trans (f.trans j))).cell;have k2:=(q.ext (hx2.trans (f.trans j))).cell;have k3:=(r.ext (hx2.trans (f.trans j))).cell))
  go_ret;exact⟨zJ (by rw [J.out]),m⟩
 all_goals
  have J:=za (show iface s p t = -1 by unfold iface;rw [h1,h2,h3];rfl);have u:=za h1;have v:=za h2;have z:=za h3;clear h1 h2 h3
  go_enter Tryz.func114,Tryz.ntmps114
  go_upto_region 1 with fail
  generalize U0:((w.alloc _).alloc _).alloc _=T at *;obtain⟨l,o,q,r⟩:=jJ U0;clear U0;have Q:=o.cell;go_wp2_with (first
   |(go_at_call 199;with_reducible refine (E.out _ l).mono ?_;rw [u.out];rintro e U ⟨rfl,hx2⟩;have g:=l.trans hx2;have c2:=(q.ext hx2).cell)
   |(go_at_call 200;with_reducible refine (D.out _ g).mono ?_;rw [v.out];rintro e V ⟨rfl,f⟩;have i:=g.trans f;have R:=(r.ext (hx2.trans f)).cell)
   |(go_at_call 199;with_reducible refine (F.out _ i).mono ?_;rw [z.out];rintro e X ⟨rfl,j⟩;have m:=i.trans j))
  go_ret;exact⟨zJ (by rw [J.out]),by first|exact m|exact i|exact g⟩
theorem zcT (h:zP w lo hi A n s)(hp:zH w lo1 hi1 B m1 B' m1' p)(ht:zP w lo2 hi2 C k t) :
  Calls Tryz.prog 188 #[.agg #[s.al,s.st,.slice A n c],.agg #[p.al,.slice B m1 d1,.slice B' m1' d1'],.agg #[t.al,t.st,.slice C k c2]] w fun e w'=>e=.returned (.int .i64 (iface s p t))∧Ext w w':=by
 have E:=za (fun W (hW:Ext w W)=>zak (c:=c) (h.ext hW));have D:=za (fun W (hW:Ext w W)=>zF _ _ _ _ d1 _ _ d1' _ _ (hp.ext hW));have F:=za (fun W (hW:Ext w W)=>zak (c:=c2) (ht.ext hW));clear h hp ht;cases h1:zk s<;>cases h2:zj p<;>cases h3:zk t
 case true.true.true =>
  have u:=za h1;have v:=za h2;have z:=za h3;have L:=zR h1;have M:=(zl h2).1;have O:=zR h3;obtain⟨a,G⟩:∃ a:Nat,Hid (s.al=a):=⟨s.al.toNat,by unfold Hid;omega⟩;obtain⟨b,H⟩:∃ a:Nat,Hid (p.al=a):=⟨p.al.toNat,by unfold Hid;omega⟩;obtain⟨d,I⟩:∃ a:Nat,Hid (t.al=a):=⟨t.al.toNat,by unfold Hid;omega⟩;have J:=za (show iface s p t=((((a|||b)&&&d:Nat)):Int) by unfold iface;rw [h1,h2,h3,G.out,H.out,I.out];rfl);rw [G.out] at L;rw [H.out] at M;rw [I.out] at O;have Y:a<=63:=oM;have Z:b<=63:=oM;have d6:d<=63:=oM;have S:=eR (n:=6) (x:=a) (y:=b) oM oM;have ho:=zcm (a:=a) (b:=b) tM tM;have hn:=zdx (a:=a|||b) (b:=d) tM tM;clear h1 h2 h3 L M O S;rw [G.out] at E ⊢;rw [H.out] at D ⊢;rw [I.out] at F ⊢
  go_enter Tryz.func188,Tryz.ntmps188
  go_upto_region 1 with fail
  generalize U0:((w.alloc _).alloc _).alloc _=T at *;obtain⟨l,o,q,r⟩:=jJ U0;clear U0;have Q:=o.cell;go_wp2_with (first
   |(go_at_call 108;with_reducible refine (E.out _ l).mono ?_;rw [u.out];rintro e U ⟨rfl,hx2⟩;have g:=l.trans hx2;have c2:=(q.ext hx2).cell)
   |(go_at_call 95;with_reducible refine (D.out _ g).mono ?_;rw [v.out];rintro e V ⟨rfl,f⟩;have i:=g.trans f;have R:=(r.ext (hx2.trans f)).cell)
   |(go_at_call 108;with_reducible refine (F.out _ i).mono ?_;rw [z.out];rintro e X ⟨rfl,j⟩;have m:=i.trans j;have k1:=(o.ext (hx2.trans (f.trans j))).cell;have k2:=(q.ext (hx2.trans (f.trans j))).cell;have k3:=(r.ext (hx2.trans (f.trans j))).cell))
  go_ret;exact⟨zJ (by rw [J.out]),m⟩
 all_goals
  have J:=za (show iface s p t = -1 by unfold iface;rw [h1,h2,h3];rfl);have u:=za h1;have v:=za h2;have z:=za h3;clear h1 h2 h3
  go_enter Tryz.func188,Tryz.ntmps188
  go_upto_region 1 with fail
  generalize U0:((w.alloc _).alloc _).alloc _=T at *;obtain⟨l,o,q,r⟩:=jJ U0;clear U0;have Q:=o.cell;go_wp2_with (first
   |(go_at_call 108;with_reducible refine (E.out _ l).mono ?_;rw [u.out];rintro e U ⟨rfl,hx2⟩;have g:=l.trans hx2;have c2:=(q.ext hx2).cell)
   |(go_at_call 95;with_reducible refine (D.out _ g).mono ?_;rw [v.out];rintro e V ⟨rfl,f⟩;have i:=g.trans f;have R:=(r.ext (hx2.trans f)).cell)
   |(go_at_call 108;with_reducible refine (F.out _ i).mono ?_;rw [z.out];rintro e X ⟨rfl,j⟩;have m:=i.trans j))
  go_ret;exact⟨zJ (by rw [J.out]),by first|exact m|exact i|exact g⟩
end
end Go.Proofs.YtcfchopfijalpaaGreatDoor
