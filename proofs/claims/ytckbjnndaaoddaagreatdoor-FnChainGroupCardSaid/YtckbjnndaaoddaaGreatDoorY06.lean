/- impl.firstBr -/
import Derived.Test.YtckbjnndaaoddaaGreatDoorY05
set_option maxHeartbeats 8000000
set_option maxRecDepth 100000
namespace Go.Proofs.YtckbjnndaaoddaaGreatDoor
open Go Go.RowKit
open Blk renaming new->eX
open Bool renaming and_eq_true->eD
open Ext renaming bl_->eS,refl->dE
open Int renaming natCast_mul->iD
open List renaming take_of_length_le->eF
open Nat renaming ne_of_lt->fX,or_lt_two_pow->e7,pow_le_pow_right->e6
variable {A B B':Option Addr} {c d d' hi hi' lo lo' m m' n:Nat} {p:Aut} {ss:List Sys} {w:World}
theorem yY06d1 {P:Prop}(h:P:=by
 have Kh10:=h10.cell 0;have Zh10:=h10.frozen 0;refine zb fun K hK=>?_;go_simp;have hx2:=hx0.frm (Frm.setCell w23 g10 0 (.slice UA a.next.length uc)) (fun k hk e=>oH hGh10);have hA2:=hA.set h10 dM (.slice UA a.next.length uc);have hP2:=hP.set h10 dM (.slice UA a.next.length uc);have h102:Blk (w23.setCell g10 (.slice UA a.next.length uc)) g10 148 #[.slice UA a.next.length uc]:=by simpa using h10.ab 0 (.slice UA a.next.length uc)
 have h112:=h11.far (p:=⟨g10,0,none⟩) (by first|exact hne|exact hne.symm) (.slice UA a.next.length uc)
 refine hK.out _ _ ?_;refine pT ?_;clear hA hP h10 h11 Kh10 Zh10 hx0;generalize w23.setCell g10 (.slice UA a.next.length uc)=w24 at *;have hA:=hA2;have hP:=hP2;have h10:=h102;have h11:=h112;have hx0:=hx2;clear hA2 hP2 h102 h112 hx2;have Kh11:=h11.cell 0;have Zh11:=h11.frozen 0;refine zb fun K hK=>?_;go_simp;have hx2:=hx0.frm (Frm.setCell w24 g11 0 (.slice RA p.next.length rc)) (fun k hk e=>oH hGh11);have hA2:=hA.set h11 dM (.slice RA p.next.length rc);have hP2:=hP.set h11 dM (.slice RA p.next.length rc);have h112:Blk (w24.setCell g11 (.slice RA p.next.length rc)) g11 148 #[.slice RA p.next.length rc]:=by simpa using h11.ab 0 (.slice RA p.next.length rc)
 have h102:=h10.far (p:=⟨g11,0,none⟩) (by first|exact hne|exact hne.symm) (.slice RA p.next.length rc)
 refine hK.out _ _ ?_;refine pT ?_;clear hA hP h10 h11 Kh11 Zh11 hx0;generalize w24.setCell g11 (.slice RA p.next.length rc)=w25 at *;have hA:=hA2;have hP:=hP2;have h10:=h102;have h11:=h112;have hx0:=hx2;clear hA2 hP2 h102 h112 hx2;refine zg ?_;go_wp2_with fail
 go_meet;exact⟨g10,g11,UA,RA,uc,rc,rfl,rfl,hx0,h10,h11,hA,hP⟩
 ):P:=h
theorem yY06c1 {P:Prop}(h:P:=by
 refine zb fun K hK=>?_;go_simp;refine (hTP.out _ hx0).mono ?_;rintro e w23 ⟨RA,rc,rfl,hP,hx1⟩;replace hx0:=hx0.trans hx1;replace h10:=h10.ext hx1;replace h11:=h11.ext hx1;replace hA:=hA.ext hx1;clear hx1;refine hK.out _ _ ?_;refine pT ?_;exact yY06d1
 ):P:=h
theorem yY06b1 {P:Prop}(h:P:=by
 refine ze fun K hK=>?_;go_simp;refine (hTA.out _ hx0).mono ?_;rintro e w22 ⟨UA,uc,rfl,hA,hx1⟩;replace hx0:=hx0.trans hx1;replace h10:=h10.ext hx1;replace h11:=h11.ext hx1;clear hx1;refine hK.out _ _ hx0 ?_;refine pT ?_;exact yY06c1
 ):P:=h
theorem yY06c2 {P:Prop}(h:P:=by
 exact yY06d1
 ):P:=h
theorem yY06b3 {P:Prop}(h:P:=by
 refine ze fun K hK=>?_;go_simp;have hne:=Nat.ne_of_lt h11.lt;have hGh10:=hx0.size;have hx1:=(Ext.refl w22).alloc (.cells #[()] 148);replace hx0:=hx0.trans hx1;replace h11:=h11.ext hx1;replace hA:=hA.ext hx1;replace hP:=hP.ext hx1;clear hx1;refine hK.out _ _ hx0 ?_;refine pT ?_;generalize U0:w22.alloc _=w23 at *;have h10:=Ext.bl_ U0;clear U0;generalize w22.heap.size=g10 at *;exact yY06c2
 ):P:=h
theorem yY06b4 {P:Prop}(h:P:=by
 exact yY06c1
 ):P:=h
theorem reads_blk {g:Nat} {t:TypeId} {v:Value}(h:Blk w g t #[v])(h1:lo<=g)(h2:g<hi):Reads w lo hi 1 (some ⟨g,0,none⟩) 1 [v]:=
 ⟨rfl,oM,fun _=>⟨_,rfl,h1,h2,fun j u hu=>by
  rw [zT,Nat.zero_add,h.cell]
  simpa using hu⟩⟩
theorem yY06a1 {P:Prop}(h:P:=by
 refine zm (fun K hK=>?_) (fun K hK=>?_)
 ·go_simp;refine (hTA.out _ hx0).mono ?_;rintro e w21 ⟨UA,uc,rfl,hA,hx1⟩;replace hx0:=hx0.trans hx1;replace h11:=h11.ext hx1;clear hx1;refine hK.out _ _ hx0 ?_;refine pT ?_;refine zm (fun K hK=>?_) (fun K hK=>?_)
  ·go_simp;refine (hTP.out _ hx0).mono ?_;rintro e w22 ⟨RA,rc,rfl,hP,hx1⟩;replace hx0:=hx0.trans hx1;replace h11:=h11.ext hx1;replace hA:=hA.ext hx1;clear hx1;refine hK.out _ _ hx0 ?_;refine pT ?_;exact yY06b3
  ·go_simp;have hne:=Nat.ne_of_lt h11.lt;have hGh10:=hx0.size;have hx1:=(Ext.refl w21).alloc (.cells #[()] 148);replace hx0:=hx0.trans hx1;replace h11:=h11.ext hx1;replace hA:=hA.ext hx1;clear hx1;refine hK.out _ _ hx0 ?_;refine pT ?_;generalize U0:w21.alloc _=w22 at *;have h10:=Ext.bl_ U0;clear U0;generalize w21.heap.size=g10 at *;exact yY06b4
 ·go_simp;have hne:=Nat.ne_of_lt h11.lt;have hGh10:=hx0.size;have hx1:=(Ext.refl w20).alloc (.cells #[()] 148);replace hx0:=hx0.trans hx1;replace h11:=h11.ext hx1;clear hx1;refine hK.out _ _ hx0 ?_;refine pT ?_;generalize U0:w20.alloc _=w21 at *;have h10:=Ext.bl_ U0;clear U0;generalize w20.heap.size=g10 at *;exact yY06b1
 ):P:=h
theorem yY06b2 {P:Prop}(h:P:=by
 refine ze fun K hK=>?_;go_simp;have hne:=Nat.ne_of_lt h10.lt;have hGh11:=hx0.size;have hx1:=(Ext.refl w22).alloc (.cells #[()] 148);replace hx0:=hx0.trans hx1;replace h10:=h10.ext hx1;replace hA:=hA.ext hx1;replace hP:=hP.ext hx1;clear hx1;refine hK.out _ _ hx0 ?_;refine pT ?_;generalize U0:w22.alloc _=w23 at *;have h11:=Ext.bl_ U0;clear U0;generalize w22.heap.size=g11 at *;exact yY06c2
 ):P:=h
theorem yY06a2 {P:Prop}(h:P:=by
 refine zm (fun K hK=>?_) (fun K hK=>?_)
 ·go_simp;refine (hTA.out _ hx0).mono ?_;rintro e w21 ⟨UA,uc,rfl,hA,hx1⟩;replace hx0:=hx0.trans hx1;replace h10:=h10.ext hx1;clear hx1;refine hK.out _ _ hx0 ?_;refine pT ?_;refine zm (fun K hK=>?_) (fun K hK=>?_)
  ·go_simp;refine (hTP.out _ hx0).mono ?_;rintro e w22 ⟨RA,rc,rfl,hP,hx1⟩;replace hx0:=hx0.trans hx1;replace h10:=h10.ext hx1;replace hA:=hA.ext hx1;clear hx1;refine hK.out _ _ hx0 ?_;refine pT ?_;exact yY06b2
  ·go_simp;have hne:=Nat.ne_of_lt h10.lt;have hGh11:=hx0.size;have hx1:=(Ext.refl w21).alloc (.cells #[()] 148);replace hx0:=hx0.trans hx1;replace h10:=h10.ext hx1;replace hA:=hA.ext hx1;clear hx1;refine hK.out _ _ hx0 ?_;refine pT ?_;generalize U0:w21.alloc _=w22 at *;have h11:=Ext.bl_ U0;clear U0;generalize w21.heap.size=g11 at *;exact yY06b4
 ·go_simp;have hne:=Nat.ne_of_lt h10.lt;have hGh11:=hx0.size;have hx1:=(Ext.refl w20).alloc (.cells #[()] 148);replace hx0:=hx0.trans hx1;replace h10:=h10.ext hx1;clear hx1;refine hK.out _ _ hx0 ?_;refine pT ?_;generalize U0:w20.alloc _=w21 at *;have h11:=Ext.bl_ U0;clear U0;generalize w20.heap.size=g11 at *;exact yY06b1
 ):P:=h
theorem yY06c3 {P:Prop}(h:P:=by
 refine zb fun K hK=>?_;go_simp;refine (key.out _ hx0 _ _ _ _ _ hI hIL).mono ?_;rintro e w23 ⟨hx1,hcase⟩;have hx2:=hw9.trans (hx0.trans hx1);rcases hcase with ⟨v,rfl,hF⟩|⟨rfl,hF⟩
 ·have hres:=za (show zP w (zca ss a p) [0] (zbJ a p) (letters (U|||al) 6) _ w23 from ⟨hx2,Or.inl ⟨v,rfl,hF⟩⟩);refine hK.out _ _ ?_;refine pT ?_;refine uQ ?_;refine zg ?_;go_wp2_with fail
  go_ret2;exact hres.out
 ·have hres:=za (show zP w (zca ss a p) [0] (zbJ a p) (letters (U|||al) 6) _ w23 from ⟨hx2,Or.inr ⟨rfl,hF⟩⟩);refine hK.out _ _ ?_;refine pT ?_;refine uQ ?_;refine zg ?_;go_wp2_with fail
  go_ret2;exact hres.out
 ):P:=h
theorem yY06b6 {P:Prop}(h:P:=by
 exact yY06c3
 ):P:=h
theorem yY06a3 {P:Prop}(h:P:=by
 refine hK.out _ _ hx0 ?_;refine pT ?_;refine uQ ?_;refine zm (fun K hK=>?_) (fun K hK=>?_)
 ·go_simp;have hI:=zdr (x:=0) (Blk.new w20 3 #[.int .i64 ((0:Nat):Int)]);have hx1:=(Ext.refl w20).alloc (.cells #[.int .i64 ((0:Nat):Int)] 3);replace hx0:=hx0.trans hx1;clear hx1;refine hK.out _ _ hx0 ?_;refine pT ?_;generalize w20.alloc _=w21 at *;generalize w20.heap.size=g1 at *;refine ze fun K hK=>?_;go_simp;refine (hLT.out w21).mono ?_;rintro e w22 ⟨AL,cL,rfl,hownL,hx1⟩;have hIL:=zar.own hownL;clear hownL;replace hx0:=hx0.trans hx1;replace hI:=hI.ext hx1;clear hx1;refine hK.out _ _ hx0 ?_;refine pT ?_;exact yY06b6
 ·go_simp;refine (hLT.out w20).mono ?_;rintro e w21 ⟨AL,cL,rfl,hownL,hx1⟩;have hIL:=zar.own hownL;clear hownL;replace hx0:=hx0.trans hx1;clear hx1;refine hK.out _ _ hx0 ?_;refine pT ?_;refine ze fun K hK=>?_;go_simp;have hI:=zdr (x:=0) (Blk.new w21 3 #[.int .i64 ((0:Nat):Int)]);have hx1:=(Ext.refl w21).alloc (.cells #[.int .i64 ((0:Nat):Int)] 3);replace hx0:=hx0.trans hx1;replace hIL:=hIL.ext hx1;clear hx1;refine hK.out _ _ hx0 ?_;refine pT ?_;generalize w21.alloc _=w22 at *;generalize w21.heap.size=g1 at *;exact yY06b6
 ):P:=h
theorem yY06a4 {P:Prop}(h:P:=by
 refine ze fun K hK=>?_;go_simp;refine hK.out _ _ hx0 ?_;refine pT ?_;refine uQ ?_;exact yY06b1
 ):P:=h
theorem yY06a5 {P:Prop}(h:P:=by
 exact yY06b2
 ):P:=h
theorem yY06a6 {P:Prop}(h:P:=by
 exact yY06b3
 ):P:=h
theorem yY06a7 {P:Prop}(h:P:=by
 exact yY06b4
 ):P:=h
theorem yY06a8 {P:Prop}(h:P:=by
 have Kh12:=h12.cell 0;have Zh12:=h12.frozen 0;refine ze fun K hK=>?_;go_simp;have hx2:=hx0.frm (Frm.setCell w21 g12 0 (.int .i64 (a.next.length:Nat))) (fun k hk e=>oH hGh12);have h122:Blk (w21.setCell g12 (.int .i64 (a.next.length:Nat))) g12 3 #[.int .i64 (a.next.length:Nat)]:=by simpa using h12.ab 0 (.int .i64 (a.next.length:Nat))
 have h132:=h13.far (p:=⟨g12,0,none⟩) (by first|exact hne|exact hne.symm) (.int .i64 (a.next.length:Nat))
 refine hK.out _ _ hx2 ?_;refine pT ?_;clear h12 h13 Kh12 Zh12 hx0;generalize w21.setCell g12 (.int .i64 (a.next.length:Nat))=w22 at *;have h12:=h122;have h13:=h132;have hx0:=hx2;clear h122 h132 hx2;have Kh13:=h13.cell 0;have Zh13:=h13.frozen 0;refine zb fun K hK=>?_;go_simp;have hx2:=hx0.frm (Frm.setCell w22 g13 0 (.int .i64 (p.next.length:Nat))) (fun k hk e=>oH hGh13);have h132:Blk (w22.setCell g13 (.int .i64 (p.next.length:Nat))) g13 3 #[.int .i64 (p.next.length:Nat)]:=by simpa using h13.ab 0 (.int .i64 (p.next.length:Nat))
 have h122:=h12.far (p:=⟨g13,0,none⟩) (by first|exact hne|exact hne.symm) (.int .i64 (p.next.length:Nat))
 refine hK.out _ _ ?_;refine pT ?_;clear h12 h13 Kh13 Zh13 hx0;generalize w22.setCell g13 (.int .i64 (p.next.length:Nat))=w23 at *;have h12:=h122;have h13:=h132;have hx0:=hx2;clear h122 h132 hx2;refine zg ?_;go_wp2_with fail
 go_meet;exact⟨g12,g13,rfl,rfl,hx0,h12,h13⟩
 ):P:=h
theorem yY06b5 {P:Prop}(h:P:=by
 refine hK.out _ _ hx0 ?_;refine pT ?_;refine uQ ?_;refine ze fun K hK=>?_;go_simp;refine (hLT.out w21).mono ?_;rintro e w22 ⟨AL,cL,rfl,hownL,hx1⟩;have hIL:=zar.own hownL;clear hownL;replace hx0:=hx0.trans hx1;replace hI:=hI.ext hx1;clear hx1;refine hK.out _ _ hx0 ?_;refine pT ?_;exact yY06c3
 ):P:=h
theorem yY06a9 {P:Prop}(h:P:=by
 refine ze fun K hK=>?_;go_simp;refine (hSZ.out _ hx0).mono (mQ fun w21 hx1=>?_);replace hx0:=hx0.trans hx1;replace hI:=hI.ext hx1;clear hx1;exact yY06b5
 ):P:=h
theorem yY06a10 {P:Prop}(h:P:=by
 refine ze fun K hK=>?_;go_simp;exact yY06b5
 ):P:=h
theorem zfc {k:Nat}   {C:Option Addr} {m2 d2:Nat} {C':Option Addr} {m2' d2' lo2 hi2:Nat}  
  (h:zdG w lo hi A k ss) (hap:zy ss=true) (hT:Tab w) (hP0:zF w lo2 hi2 C m2 C' m2' p) (hp:zj p=true) :
  Calls Tryz.prog 84 #[.slice A k c,.pointer none,.agg #[p.al,.slice C m2 d2,.slice C' m2' d2']] w (zP w (zca ss free p) [0] (zbJ free p) (letters (zB ss|||free.al.toNat) 6)):=by
 have hv:=zbu;obtain⟨a,aw⟩:∃ a,Hid (a=free):=⟨_,rfl⟩;rw [← aw.out] at hv ⊢;have ae:∀ s∈ss,zk s=true:=by
  unfold zy at hap;simp only [eD,List.all_eq_true] at hap;exact hap.2.2
 have a6:k<=3:=by
  unfold zy at hap;simp only [eD,decide_eq_true_eq] at hap;have:=h.1;omega
 have F:=za (fun (s:Sys) (hs:s∈ss)=>zck (ae s hs));have a4:=za (fun (s:Sys) (hs:s∈ss)=>show Few 16 s.edges from by
  obtain⟨q,_,_,hq,hf⟩:=zcE (ae s hs);exact fun e he=>by have:=hf e he;omega)
 have hU:zB ss<=63:=by
  have key:∀ l:List Sys,(∀ s∈l,zk s=true)->zB l<=63:=by
   intro l hl;have:∀ n,zB (l.take n)<=63:=by
    intro n
    induction n with
    |zero=>simp [zB]
    |succ n ih =>
     rcases Nat.lt_or_ge n l.length with Z|Z
     ·rw [zcs (List.getElem?_eq_getElem Z)];have:=zG (hl _ (List.getElem_mem Z));have:=e7 (n:=6) (x:=zB (l.take n)) (y:=l[n].al.toNat) oM oM;omega
     ·rw [eF oM];rw [eF Z] at ih;exact ih
   have h2:=this l.length;rwa [List.take_length] at h2
  exact key ss ae
 have bq:=(zl hv).1;obtain⟨al,J⟩:∃ al:Nat,Hid (a.al=al):=⟨a.al.toNat,by unfold Hid;omega⟩;have bQ:al<=63:=oH J.out;have bz:=za (show zaZ ss=(zB ss:Int) by unfold zaZ;rw [hap];rfl);have a2:=za (show a.al.toNat=al by have:=J.out;omega);have bR:=za (show 0<=p.al∧p.al<=63 from (zl hp).1);rw [a2.out];have HS:=za (fun W (hW:Ext w W)=>h.ext hW);have HT:=za (fun W (hW:Ext w W)=>hT.ext hW);have HP:=za (fun W (hW:Ext w W)=>hP0.ext hW);have Hv:=za hv;have Hp:=za hp;generalize hUe:zB ss=U at *;have HU:=za hUe;clear hUe h hT hP0 hv hp hap ae bq
 go_enter Tryz.func84,Tryz.ntmps84
 go_upto_region 1 with fail
 generalize U0:(w.alloc _).alloc _=w2 at *;obtain⟨O,b4,b5⟩:=Ext.x2_ U0;clear U0;go_upto_region 2 with (go_at_call 66;refine (zed (HS.out _ O) a4.out oM).mono ?_;rintro e w3 ⟨M,dm,rfl,a8,ag⟩)
 have bD:=O.trans ag;have b8:=eX w3 108 #[.slice A k c,.slice M k dm];have T:=ag.alloc (.cells #[.slice A k c,.slice M k dm] 108);have ap:=a8.ext ((dE w3).alloc (.cells #[.slice A k c,.slice M k dm] 108));have aj:w2.heap.size<=w3.heap.size:=ag.size;generalize hg8:w3.heap.size=g8 at *;clear a8 hg8;generalize w3.alloc _=w4 at *;have aA:=O.trans T;clear bD ag;go_upto_region 3 with (go_at_call 86;refine (zdn (HS.out _ aA)).mono ?_;rw [bz.out];rintro e f ⟨rfl,v⟩)
 have Y:=b4.ext (T.trans v);have aL:=b5.ext (T.trans v);have aP:=b8.ext v;have aq:=ap.ext v;have Q:=aA.trans v;have bc:=(T.trans v).size;have bw:=b5.lt;have a5:=b8.lt;have bd:w2.heap.size<=g8:=aj;have k4:=Y.cell 0;have z4:=Y.frozen 0;clear T v b4 b5 b8 ap O aA;go_upto_region 4 with fail
 clear k4 z4;have ad:=eX f 110 #[()];have a7:=(dE f).alloc (.cells #[()] 110);have ba:(f.alloc (.cells #[()] 110)).heap.size=f.heap.size+1:=sM;have L:=eX (f.alloc (.cells #[()] 110)) 4 #[.bool true];rw [ba] at L;have ay:=(dE (f.alloc (.cells #[()] 110))).alloc (.cells #[.bool true] 4);have bb:((f.alloc (.cells #[()] 110)).alloc (.cells #[.bool true] 4)).heap.size=f.heap.size+1+1:=sM;have az:=eX ((f.alloc (.cells #[()] 110)).alloc (.cells #[.bool true] 4)) 27 #[(0:Int),.slice (some f.heap.size) 1 1,.slice (some ⟨f.heap.size+1,0,none⟩) 1 1];rw [bb] at az;have ab:=(dE ((f.alloc (.cells #[()] 110)).alloc (.cells #[.bool true] 4))).alloc (.cells #[(0:Int),.slice (some f.heap.size) 1 1,.slice (some ⟨f.heap.size+1,0,none⟩) 1 1] 27);replace ad:=ad.ext (ay.trans ab);replace L:=L.ext ab;have hm:=a7.trans (ay.trans ab);have I:=Y.ext hm;have aN:=aL.ext hm;have aQ:=aP.ext hm;have ar:=aq.ext hm;have k4:=I.cell 0;have z4:=I.frozen 0;have af:=Q.trans hm;clear a7 ay ab hm ba bb Y aL aP aq;go_upto_region 5 with fail
 have br:w.heap.size<f.heap.size:=oH Q.size;generalize f.heap.size=V at *;generalize ((f.alloc _).alloc _).alloc _=w6 at *;have g:=Frm.setCell w6 w.heap.size 0 (.pointer (some ⟨V+1+1,0,none⟩));have aK:Blk (w6.setCell w.heap.size (.pointer (some ⟨V+1+1,0,none⟩))) w.heap.size 173 #[.pointer (some ⟨V+1+1,0,none⟩)]:=by simpa using I.ab 0 (.pointer (some ⟨V+1+1,0,none⟩))
 have aO:=aN.frm g oM;have aR:=aQ.frm g oM;have am:=ad.frm g oM;have an:=L.frm g oM;have ao:=az.frm g oM;have aB:=af.frm g (fun k hk e=>oM);have au:PtAt (w6.setCell w.heap.size (.pointer (some ⟨V+1+1,0,none⟩))) lo hi A k w2.heap.size g8 M ss:=by
  obtain⟨bs,hr,bx⟩:=ar.mov;exact⟨HS.out _ aB,bs,hr.frm g (fun k Z h2 e=>oM),bx.frm g (fun b cs hB e=>by
   subst e;exact absurd rfl (hB.ne I dM))⟩
 clear ad L az I aN aQ ar g k4 z4;generalize w6.setCell w.heap.size (.pointer (some ⟨V+1+1,0,none⟩))=f at *;obtain⟨ga,B,m1,d1,B',G,E,aC,ax,ai,aW,aS⟩:∃ (ga:Nat) (B:Option Addr) (m1 d1:Nat) (B':Option Addr) (G E aC ax:Nat),Blk f w.heap.size 173 #[.pointer (some ga)]∧Blk f ga 27 #[a.al,.slice B m1 d1,.slice B' G E]∧zF f aC ax B m1 B' G a:=by
  refine⟨V+1+1,some ⟨V,0,none⟩,1,1,some ⟨V+1,0,none⟩,1,1,V,V+2,aK,by rw [aw.out];exact ao,?_⟩;rw [aw.out];refine⟨⟨rfl,[.slice none 0 0],reads_blk am (Nat.le_refl _) oM,rfl,fun i row l hr hl=>?_⟩,rfl,reads_blk an oM oM⟩;cases i with
  |zero =>
   simp at hr;simp [free] at hl;subst hr;subst hl;exact⟨none,0,rfl,Reads.nil⟩
  |succ i=>simp at hr
 have aT:=za (fun W (hW:Ext f W)=>ai.ext hW);have aU:=za (fun W (hW:Ext f W)=>aO.ext hW);have bn:=za (fun W (hW:Ext f W)=>aR.ext hW);have aZ:=za (fun W (hW:Ext f W)=>au.ext hW);have H:=za (fun W (hW:Ext f W)=>aW.ext hW);have aI:=za (fun W (hW:Ext f W)=>aS.ext hW);have bf:=aB;clear aB af Q am an ao aK aO aR au aW aS ai br a5 aj bd bw bc
 go_cut [10,11] (fun v10 v11 wx=>∃ (g10 g11:Nat) (UA RA:Option Addr) (uc rc:Nat),v10=.pointer (some g10)∧v11=.pointer (some g11)∧Ext f wx∧Blk wx g10 148 #[.slice UA a.next.length uc]∧Blk wx g11 148 #[.slice RA p.next.length rc]∧TbO wx UA uc a∧TbO wx RA rc p)
 case first =>
  have c4:∀ W,Ext f W->W.cell? w.heap.size=some (.pointer (some ga)):=fun W hW=>by rw [(aT.out W hW).cell];rfl
  have ca:∀ W,Ext f W->∀ j,W.cell? ⟨ga,j,none⟩=#[Value.int .i64 a.al,.slice B m1 d1,.slice B' G E][j]?:=fun W hW=>(H.out W hW).cell;have c5:∀ W,Ext f W->∀ j,W.cell? ⟨w.heap.size+1,j,none⟩=#[Value.int .i64 p.al,.slice C m2 d2,.slice C' m2' d2'][j]?:=fun W hW=>(aU.out W hW).cell;have hTA:=za (fun W (hW:Ext f W)=>zdp (d:=d1) (d':=E) (aI.out W hW) Hv.out);have hTP:=za (fun W (hW:Ext f W)=>zdp (d:=d2) (d':=d2') (HP.out W (bf.trans hW)) Hp.out);have R:=dE f;refine uR (fun X=>Ext f X) [5,8,9] (zw.app [0,4] (zw.three 1 (zw.app [2] (zw.three 3 (zw.three 5 (zw.two 6 (zw.of [7,8,9]) 7 (zw.of [6,8,9])) 6 (zw.two 5 (zw.of [7,8,9]) 7 (zw.of [5,8,9])) 7 (zw.two 5 (zw.of [6,8,9]) 6 (zw.of [5,8,9]))) 6 (zw.two 3 (zw.two 5 (zw.of [7,8,9]) 7 (zw.of [5,8,9])) 7 (zw.of [3,5,8,9])) 7 (zw.two 3 (zw.two 5 (zw.of [6,8,9]) 6 (zw.of [5,8,9])) 6 (zw.of [3,5,8,9])))) 6 (zw.two 1 (zw.app [2] (zw.two 3 (zw.two 5 (zw.of [7,8,9]) 7 (zw.of [5,8,9])) 7 (zw.of [3,5,8,9]))) 7 (zw.of [1,2,3,5,8,9])) 7 (zw.two 1 (zw.app [2] (zw.two 3 (zw.two 5 (zw.of [6,8,9]) 6 (zw.of [5,8,9])) 6 (zw.of [3,5,8,9]))) 6 (zw.of [1,2,3,5,8,9])))) ?_;refine uQ ?_;have hx0:Ext f f.drew:=R.drew;generalize f.drew=o at *;refine uQ ?_;refine zaL (fun K hK=>?_) (fun K hK=>?_) (fun K hK=>?_)
  ·go_simp;refine hK.out _ _ hx0 ?_;refine pT ?_;refine uQ ?_;refine zaL (fun K hK=>?_) (fun K hK=>?_) (fun K hK=>?_)
   ·go_simp;refine (hTA.out _ hx0).mono ?_;rintro e w20 ⟨UA,uc,rfl,hA,hx1⟩;replace hx0:=hx0.trans hx1;clear hx1;refine hK.out _ _ hx0 ?_;refine pT ?_;refine zaL (fun K hK=>?_) (fun K hK=>?_) (fun K hK=>?_)
    ·go_simp;refine (hTP.out _ hx0).mono ?_;rintro e w21 ⟨RA,rc,rfl,hP,hx1⟩;replace hx0:=hx0.trans hx1;replace hA:=hA.ext hx1;clear hx1;refine hK.out _ _ hx0 ?_;refine pT ?_;refine zm (fun K hK=>?_) (fun K hK=>?_)
     ·go_simp;have hGh10:=hx0.size;have hx1:=(dE w21).alloc (.cells #[()] 148);replace hx0:=hx0.trans hx1;replace hA:=hA.ext hx1;replace hP:=hP.ext hx1;clear hx1;refine hK.out _ _ hx0 ?_;refine pT ?_;generalize U0:w21.alloc _=w22 at *;have h10:=eS U0;clear U0;generalize w21.heap.size=g10 at *;exact yY06a5
     ·go_simp;have hGh11:=hx0.size;have hx1:=(dE w21).alloc (.cells #[()] 148);replace hx0:=hx0.trans hx1;replace hA:=hA.ext hx1;replace hP:=hP.ext hx1;clear hx1;refine hK.out _ _ hx0 ?_;refine pT ?_;generalize U0:w21.alloc _=w22 at *;have h11:=eS U0;clear U0;generalize w21.heap.size=g11 at *;exact yY06a6
    ·go_simp;have hGh10:=hx0.size;have hx1:=(dE w20).alloc (.cells #[()] 148);replace hx0:=hx0.trans hx1;replace hA:=hA.ext hx1;clear hx1;refine hK.out _ _ hx0 ?_;refine pT ?_;generalize U0:w20.alloc _=w21 at *;have h10:=eS U0;clear U0;generalize w20.heap.size=g10 at *;refine zm (fun K hK=>?_) (fun K hK=>?_)
     ·go_simp;refine (hTP.out _ hx0).mono ?_;rintro e w22 ⟨RA,rc,rfl,hP,hx1⟩;replace hx0:=hx0.trans hx1;replace h10:=h10.ext hx1;replace hA:=hA.ext hx1;clear hx1;refine hK.out _ _ hx0 ?_;refine pT ?_;exact yY06a5
     ·go_simp;have hne:=fX h10.lt;have hGh11:=hx0.size;have hx1:=(dE w21).alloc (.cells #[()] 148);replace hx0:=hx0.trans hx1;replace h10:=h10.ext hx1;replace hA:=hA.ext hx1;clear hx1;refine hK.out _ _ hx0 ?_;refine pT ?_;generalize U0:w21.alloc _=w22 at *;have h11:=eS U0;clear U0;generalize w21.heap.size=g11 at *;exact yY06a7
    ·go_simp;have hGh11:=hx0.size;have hx1:=(dE w20).alloc (.cells #[()] 148);replace hx0:=hx0.trans hx1;replace hA:=hA.ext hx1;clear hx1;refine hK.out _ _ hx0 ?_;refine pT ?_;generalize U0:w20.alloc _=w21 at *;have h11:=eS U0;clear U0;generalize w20.heap.size=g11 at *;refine zm (fun K hK=>?_) (fun K hK=>?_)
     ·go_simp;refine (hTP.out _ hx0).mono ?_;rintro e w22 ⟨RA,rc,rfl,hP,hx1⟩;replace hx0:=hx0.trans hx1;replace h11:=h11.ext hx1;replace hA:=hA.ext hx1;clear hx1;refine hK.out _ _ hx0 ?_;refine pT ?_;exact yY06a6
     ·go_simp;have hne:=fX h11.lt;have hGh10:=hx0.size;have hx1:=(dE w21).alloc (.cells #[()] 148);replace hx0:=hx0.trans hx1;replace h11:=h11.ext hx1;replace hA:=hA.ext hx1;clear hx1;refine hK.out _ _ hx0 ?_;refine pT ?_;generalize U0:w21.alloc _=w22 at *;have h10:=eS U0;clear U0;generalize w21.heap.size=g10 at *;exact yY06a7
   ·go_simp;have hGh10:=hx0.size;have hx1:=(dE o).alloc (.cells #[()] 148);replace hx0:=hx0.trans hx1;clear hx1;refine hK.out _ _ hx0 ?_;refine pT ?_;generalize U0:o.alloc _=w20 at *;have h10:=eS U0;clear U0;generalize o.heap.size=g10 at *;exact yY06a2
   ·go_simp;have hGh11:=hx0.size;have hx1:=(dE o).alloc (.cells #[()] 148);replace hx0:=hx0.trans hx1;clear hx1;refine hK.out _ _ hx0 ?_;refine pT ?_;generalize U0:o.alloc _=w20 at *;have h11:=eS U0;clear U0;generalize o.heap.size=g11 at *;exact yY06a1
  ·go_simp;have hGh10:=hx0.size;have hx1:=(dE o).alloc (.cells #[()] 148);replace hx0:=hx0.trans hx1;clear hx1;refine hK.out _ _ hx0 ?_;refine pT ?_;generalize U0:o.alloc _=w20 at *;have h10:=eS U0;clear U0;generalize o.heap.size=g10 at *;refine zm (fun K hK=>?_) (fun K hK=>?_)
   ·go_simp;refine hK.out _ _ hx0 ?_;refine pT ?_;refine uQ ?_;exact yY06a2
   ·go_simp;have hne:=fX h10.lt;have hGh11:=hx0.size;have hx1:=(dE w20).alloc (.cells #[()] 148);replace hx0:=hx0.trans hx1;replace h10:=h10.ext hx1;clear hx1;refine hK.out _ _ hx0 ?_;refine pT ?_;generalize U0:w20.alloc _=w21 at *;have h11:=eS U0;clear U0;generalize w20.heap.size=g11 at *;exact yY06a4
  ·go_simp;have hGh11:=hx0.size;have hx1:=(dE o).alloc (.cells #[()] 148);replace hx0:=hx0.trans hx1;clear hx1;refine hK.out _ _ hx0 ?_;refine pT ?_;generalize U0:o.alloc _=w20 at *;have h11:=eS U0;clear U0;generalize o.heap.size=g11 at *;refine zm (fun K hK=>?_) (fun K hK=>?_)
   ·go_simp;refine hK.out _ _ hx0 ?_;refine pT ?_;refine uQ ?_;exact yY06a1
   ·go_simp;have hne:=fX h11.lt;have hGh10:=hx0.size;have hx1:=(dE w20).alloc (.cells #[()] 148);replace hx0:=hx0.trans hx1;replace h11:=h11.ext hx1;clear hx1;refine hK.out _ _ hx0 ?_;refine pT ?_;generalize U0:w20.alloc _=w21 at *;have h10:=eS U0;clear U0;generalize w20.heap.size=g10 at *;exact yY06a4
 case rest =>
  obtain⟨g10,g11,UA,RA,uc,rc,rfl,rfl,t,h10,h11,hA,hP⟩:=hcut;have aX:=za (fun W (hW:Ext wc W)=>h10.ext hW);have aY:=za (fun W (hW:Ext wc W)=>h11.ext hW);have af:=bf.trans t;go_upto_region 6 with fail
  go_cut [12,13] (fun v12 v13 wx=>∃ (g12 g13:Nat),v12=.pointer (some g12)∧v13=.pointer (some g13)∧Ext wc wx∧Blk wx g12 3 #[.int .i64 (a.next.length:Nat)]∧Blk wx g13 3 #[.int .i64 (p.next.length:Nat)])
  case first =>
   have bW:∀ W,Ext wc W->W.cell? g10=some (.slice UA a.next.length uc):=fun W hW=>by rw [(aX.out W hW).cell];rfl
   have bX:∀ W,Ext wc W->W.cell? g11=some (.slice RA p.next.length rc):=fun W hW=>by rw [(aY.out W hW).cell];rfl
   have R:=dE wc;clear h10 h11 hA hP;refine uR (fun X=>Ext wc X) [7] (zw.app [0,1,2,3] (zw.two 4 (zw.of [5,6,7]) 5 (zw.of [4,6,7]))) ?_;refine uQ ?_;have hx0:Ext wc wc.drew:=R.drew;generalize wc.drew=o at *;refine uQ ?_;refine zm (fun K hK=>?_) (fun K hK=>?_)
   ·go_simp;have hGh12:=hx0.size;have hx1:=(dE o).alloc (.cells #[(0:Int)] 3);replace hx0:=hx0.trans hx1;clear hx1;refine hK.out _ _ hx0 ?_;refine pT ?_;generalize U0:o.alloc _=w20 at *;have h12:=eS U0;clear U0;generalize o.heap.size=g12 at *;refine ze fun K hK=>?_;go_simp;have hne:=fX h12.lt;have hGh13:=hx0.size;have hx1:=(dE w20).alloc (.cells #[(0:Int)] 3);replace hx0:=hx0.trans hx1;replace h12:=h12.ext hx1;clear hx1;refine hK.out _ _ hx0 ?_;refine pT ?_;generalize U0:w20.alloc _=w21 at *;have h13:=eS U0;clear U0;generalize w20.heap.size=g13 at *;exact yY06a8
   ·go_simp;have hGh13:=hx0.size;have hx1:=(dE o).alloc (.cells #[(0:Int)] 3);replace hx0:=hx0.trans hx1;clear hx1;refine hK.out _ _ hx0 ?_;refine pT ?_;generalize U0:o.alloc _=w20 at *;have h13:=eS U0;clear U0;generalize o.heap.size=g13 at *;refine ze fun K hK=>?_;go_simp;have hne:=fX h13.lt;have hGh12:=hx0.size;have hx1:=(dE w20).alloc (.cells #[(0:Int)] 3);replace hx0:=hx0.trans hx1;replace h13:=h13.ext hx1;clear hx1;refine hK.out _ _ hx0 ?_;refine pT ?_;generalize U0:w20.alloc _=w21 at *;have h12:=eS U0;clear U0;generalize w20.heap.size=g12 at *;exact yY06a8
  case rest =>
   obtain⟨g12,g13,rfl,rfl,r,h12,h13⟩:=hcut;rename World=>w7
   have hw9:=af.trans r;have hC:BCaps w7 g8 g10 g11 g12 g13 A M UA RA k c dm uc rc ss a p:=by
    obtain⟨bF,bt,bC⟩:=hA.at_;obtain⟨bG,bu,bB⟩:=hP.at_;exact⟨bn.out _ (t.trans r),h10.ext r,h11.ext r,h12,h13,⟨_,_,_,_,aZ.out _ (t.trans r)⟩,⟨bF,bt,bC.ext r⟩,⟨bG,bu,bB.ext r⟩⟩
   have av:GCaps w7 w.heap.size ga (w.heap.size+1) g12 g13 a p:=⟨aT.out _ (t.trans r),⟨B,m1,d1,B',G,E,aC,ax,H.out _ (t.trans r),aI.out _ (t.trans r)⟩,⟨C,m2,d2,C',m2',d2',lo2,hi2,aU.out _ (t.trans r),HP.out _ hw9⟩,h12,h13⟩;obtain⟨N,hN⟩:∃ N:Nat,Hid (zE (zbl ss [a,p])=N):=⟨_,rfl⟩;obtain⟨⟨_,bJ⟩,⟨_,bH⟩⟩:=And.intro (zl Hv.out).2.1 (zl Hp.out).2.1;obtain⟨⟨n1,_⟩,⟨bI,_⟩⟩:=And.intro (zl Hv.out).2.1 (zl Hp.out).2.1;obtain⟨S,hS⟩:∃ S:Nat,Hid (zE (ss.map zdQ)=S):=⟨_,rfl⟩;have a0:1<=S∧S<=4096:=by
    rw [← hS.out];refine⟨zeh F.out,Nat.le_trans (zdu F.out) ?_⟩;have:=(HS.out w (dE _)).1
    calc 16 ^ ss.length<=16 ^ 3:=e6 oM oM
     _=4096:=dM
   have aa:S*a.next.length*p.next.length=N:=by
    rw [← hN.out,← hS.out,show zbl ss [a,p]=ss.map zdQ++[zbv a,zbv p] from rfl,zbU];simp [zE,zav,zbv,Nat.mul_assoc]
   have a1:S*a.next.length<=4096*12:=Nat.mul_le_mul a0.2 bJ;have bP:N<=4096*12*12:=by rw [← aa];exact Nat.mul_le_mul a1 bH
   have b2:1<=N:=by rw [← aa];exact Nat.mul_pos (Nat.mul_pos a0.1 n1) bI
   obtain⟨sn,be⟩:∃ z:Nat,Hid (S*a.next.length=z):=⟨_,rfl⟩;rw [be.out] at aa a1;have bS:(S:Int)*(a.next.length:Int)=(sn:Int):=by rw [← be.out];exact (iD S _).symm
   have b3:(sn:Int)*(p.next.length:Int)=(N:Int):=by rw [← aa];exact (iD sn _).symm
   have Hd:=za (show ∀ x l,x<N->l<6->∀ y∈zca ss a p x l,y<N from fun x l _ hl y hy=>by
    rw [zdl] at hy;rw [← hN.out];refine ziX (fun mm hmm=>?_) hl y hy;rcases List.mem_append.1 hmm with Z|Z
    ·obtain⟨s,bA,rfl⟩:=List.mem_map.1 Z;exact zei (F.out s bA)
    ·obtain⟨b,a3,rfl⟩:=List.mem_map.1 Z;simp at a3;rcases a3 with rfl|rfl
     ·exact zbw Hv.out
     ·exact zbw Hp.out)
   have bk:=za (show ∀ x l,(zca ss a p x l).length<=4096 from fun x l=>by
    unfold zca;rw [List.length_map];refine Nat.le_trans (nx_len F.out _ l) ?_;have:=(HS.out w (dE _)).1
    calc 16 ^ ss.length<=16 ^ 3:=e6 oM oM
     _=4096:=by decide)
   have u:=za (zgG (U|||al));have key:=za (fun W (hW:Ext w7 W) A1 c1 AL q' cL (hA1:zar W A1 1 [0]) (hL:zar W AL q' (letters (U|||al) 6))=>zfM (w:=W) (N:=N) (kn:=173) (kg:=174) (m:=1) (c:=c1) (cL:=cL)
    (capn:=#[.pointer (some g10),.pointer (some g13),.pointer (some g12),.pointer (some g11),.pointer (some g8)])
    (capg:=#[.pointer (some w.heap.size),.pointer (some g13),.pointer (some g12),.pointer (some ⟨w.heap.size+1,0,none⟩)])
    (goal:=zbJ a p) (d:=zca ss a p) (D:=4096) hA1 (fun n hn=>by simp at hn;omega) oM hL u.out oM oM (fun args W=>kM) (fun args W=>kM)
    (fun W' hW' n hn=>brk_goal (av.ext (hW.trans hW')) Hv.out Hp.out oM)
    (fun n l hn hl=>⟨bk.out n l,Hd.out n l hn (u.out.1 l hl)⟩)
    (fun W' hW' n l hn hl base A m c xs hb0 hb hm zkf=>brk_next (hC.ext hW) (HT.out _ (hw9.trans hW)) hW' F.out a6 Hv.out Hp.out (by rw [hN.out];exact hn) (u.out.1 l hl) hb0 hb hm zkf))
   have hSZ:=za (show ∀ W,Ext w7 W->Calls Tryz.prog 176 #[.agg #[.slice A k c,.slice M k dm]] W fun e w'=>e=.returned (.int .i64 (S:Nat))∧Ext W w' from fun W hW=>by
    have:=ziW (c:=c) (dm:=dm) (aZ.out W ((t.trans r).trans hW)) F.out a6;rw [hS.out] at this;exact this)
   have hLT:=za (fun W=>zag (U|||al) (by have:=e7 (n:=6) (x:=U) (y:=al) oM oM;unfold Sm;omega) W);have b7:bits .or .i64 (U:Int) (al:Int)=((U|||al:Nat):Int):=zbb tM tM;have c8:=fun W (hW:Ext w7 W)=>(hC.h8.ext hW).cell;have bY:∀ W,Ext w7 W->W.cell? g12=some (.int .i64 (a.next.length:Nat)):=fun W hW=>by rw [(hC.h12.ext hW).cell];rfl
   have bZ:∀ W,Ext w7 W->W.cell? g13=some (.int .i64 (p.next.length:Nat)):=fun W hW=>by rw [(hC.h13.ext hW).cell];rfl
   have c4:∀ W,Ext w7 W->W.cell? w.heap.size=some (.pointer (some ga)):=fun W hW=>by rw [(av.h4.ext hW).cell];rfl
   have ca:∀ W,Ext w7 W->∀ j,W.cell? ⟨ga,j,none⟩=#[Value.int .i64 (al:Nat),.slice B m1 d1,.slice B' G E][j]?:=fun W hW=>by
    have:=(H.out W ((t.trans r).trans hW)).cell;rw [J.out] at this;exact this
   have b9:IntKind.i64.wrap (sn:Int)=(sn:Int):=zha sn oM;have O:IntKind.i64.wrap (N:Int)=(N:Int):=zha N oM;have R:=dE w7;clear hC av h10 h11 h12 h13 hA hP;go_upto_region 9 with fail
   refine uR (fun X=>Ext w7 X) [16] (zw.app [0,2,4,7,8,14,15] (zw.three 1 (zw.app [3,5] (zw.two 6 (zw.of [9,10,11,12,13,16,17,18,19,20]) 9 (zw.app [10,11,12] (zw.two 6 (zw.of [13,16,17,18,19,20]) 13 (zw.of [6,16,17,18,19,20]))))) 6 (zw.two 1 (zw.of [3,5,9,10,11,12,13,16,17,18,19,20]) 9 (zw.of [10,11,12,1,3,5,13,16,17,18,19,20])) 9 (zw.app [10,11,12] (zw.two 1 (zw.app [3,5] (zw.two 6 (zw.of [13,16,17,18,19,20]) 13 (zw.of [6,16,17,18,19,20]))) 6 (zw.of [1,3,5,13,16,17,18,19,20]))))) ?_;refine uQ ?_;have hx0:Ext w7 w7.drew:=R.drew;generalize w7.drew=o at *;refine uQ ?_;refine zaL (fun K hK=>?_) (fun K hK=>?_) (fun K hK=>?_)
   ·go_simp;refine (hSZ.out _ hx0).mono (mQ fun w20 hx1=>?_);replace hx0:=hx0.trans hx1;clear hx1;refine hK.out _ _ hx0 ?_;refine pT ?_;refine uQ ?_;refine zm (fun K hK=>?_) (fun K hK=>?_)
    ·go_simp;have hI:=zdr (x:=0) (eX w20 3 #[.int .i64 ((0:Nat):Int)]);have hx1:=(dE w20).alloc (.cells #[.int .i64 ((0:Nat):Int)] 3);replace hx0:=hx0.trans hx1;clear hx1;refine hK.out _ _ hx0 ?_;refine pT ?_;generalize w20.alloc _=w21 at *;generalize w20.heap.size=g1 at *;exact yY06a10
    ·go_simp;exact yY06a3
   ·go_simp;have hI:=zdr (x:=0) (eX o 3 #[.int .i64 ((0:Nat):Int)]);have hx1:=(dE o).alloc (.cells #[.int .i64 ((0:Nat):Int)] 3);replace hx0:=hx0.trans hx1;clear hx1;refine hK.out _ _ hx0 ?_;refine pT ?_;generalize o.alloc _=w20 at *;generalize o.heap.size=g1 at *;refine zm (fun K hK=>?_) (fun K hK=>?_)
    ·go_simp;refine (hSZ.out _ hx0).mono (mQ fun w21 hx1=>?_);replace hx0:=hx0.trans hx1;replace hI:=hI.ext hx1;clear hx1;refine hK.out _ _ hx0 ?_;refine pT ?_;refine uQ ?_;exact yY06a10
    ·go_simp;refine hK.out _ _ hx0 ?_;refine pT ?_;refine uQ ?_;exact yY06a9
   ·go_simp;refine hK.out _ _ hx0 ?_;refine pT ?_;refine uQ ?_;refine zm (fun K hK=>?_) (fun K hK=>?_)
    ·go_simp;refine (hSZ.out _ hx0).mono (mQ fun w20 hx1=>?_);replace hx0:=hx0.trans hx1;clear hx1;exact yY06a3
    ·go_simp;have hI:=zdr (x:=0) (eX o 3 #[.int .i64 ((0:Nat):Int)]);have hx1:=(dE o).alloc (.cells #[.int .i64 ((0:Nat):Int)] 3);replace hx0:=hx0.trans hx1;clear hx1;refine hK.out _ _ hx0 ?_;refine pT ?_;generalize o.alloc _=w20 at *;generalize o.heap.size=g1 at *;exact yY06a9
section
variable {lo hi n c:Nat} {A:Option Addr} {s:Sys} {lo1 hi1 m1 d1 m1' d1':Nat} {B B':Option Addr} {a:Aut} {lo2 hi2 m2 d2 m2' d2':Nat} {C C':Option Addr} {p:Aut} {w:World}
theorem zdb (h:zV w lo hi A n s)(ha:zF w lo1 hi1 B m1 B' m1' a)(hp:zF w lo2 hi2 C m2 C' m2' p)(hT:Tab w) :
  Calls Tryz.prog 52 #[.agg #[s.al,s.st,.slice A n c],.agg #[a.al,.slice B m1 d1,.slice B' m1' d1'],.agg #[p.al,.slice C m2 d2,.slice C' m2' d2']] w fun e w'=>e=.returned (.tuple #[.string (zaG s a p),.bool (zbD s a p)])∧Ext w w':=by
 have HT:=za (fun W (hW:Ext w W)=>hT.ext hW);have D:=za (fun W (hW:Ext w W)=>h.ext hW);have y:=za (fun W (hW:Ext w W)=>ha.ext hW);have z:=za (fun W (hW:Ext w W)=>hp.ext hW);have O:=za (fun W (hW:Ext w W)=>zaE (c:=c) (h.ext hW));have L:=za (fun W (hW:Ext w W)=>zaa _ _ _ _ d1 _ _ d1' _ _ (ha.ext hW));have M:=za (fun W (hW:Ext w W)=>zaa _ _ _ _ d2 _ _ d2' _ _ (hp.ext hW));clear h ha hp hT;have j:Ext w (((w.alloc (.cells #[s.al,s.st,.slice A n c] 38)).alloc (.cells #[a.al,.slice B m1 d1,.slice B' m1' d1'] 27)).alloc (.cells #[p.al,.slice C m2 d2,.slice C' m2' d2'] 27)):=(((dE w).alloc _).alloc _).alloc _;obtain⟨t,u,v⟩:=zU (dE (((w.alloc (.cells #[s.al,s.st,.slice A n c] 38)).alloc (.cells #[a.al,.slice B m1 d1,.slice B' m1' d1'] 27)).alloc (.cells #[p.al,.slice C m2 d2,.slice C' m2' d2'] 27)))
 by_cases hT:zcL s a p=true
 ·have q:=za (show zaG s a p=vioW [s] a p∧zbD s a p=zje [s] a p by unfold zaG zbD;rw [hT];exact⟨rfl,sM⟩);unfold zcL at hT;simp only [eD] at hT;obtain⟨I,U,V⟩:=hT;have G:=za (show zy [s]=true by simp [zy,I]);have V1:=za I;have Q:=za U;have R:=za V;clear I U V
  go_enter Tryz.func52,Tryz.ntmps52
  go_upto_region 1 with fail
  generalize ((w.alloc _).alloc _).alloc _=w1 at *;have c1:=t.cell;go_upto_region 3 with (first
   |(go_at_call 65;with_reducible refine (O.out _ j).mono ?_;rw [V1.out];rintro e w2 ⟨rfl,hx2⟩;have b:=j.trans hx2;have c2:=(u.ext hx2).cell)
   |(go_at_call 25;with_reducible refine (L.out _ b).mono ?_;rw [Q.out];rintro e w3 ⟨rfl,f⟩;have d:=b.trans f;have S:=(v.ext (hx2.trans f)).cell)
   |(go_at_call 25;with_reducible refine (M.out _ d).mono ?_;rw [R.out];rintro e J ⟨rfl,k⟩;have m:=d.trans k))
  have i:=hx2.trans (f.trans k);have k1:=(t.ext i).cell;have T:=eX J 38 #[s.al,s.st,.slice A n c];have E:=(dE J).alloc (.cells #[s.al,s.st,.slice A n c] 38);have k3:=(v.ext (i.trans E)).cell;have o:=u.ext (i.trans E);have g:=m.trans E;obtain⟨l1,x,r⟩:=sl_one T (D.out _ g);have HF:=za (zgQ (c:=1) (d2:=d2) (d2':=d2') r G.out (HT.out _ g) o (y.out _ g) Q.out (z.out _ g) R.out);clear c1 c2 S t u v r T o;go_wp2_with (go_at_call 84;refine HF.out.mono ?_;rintro e w6 hF;obtain⟨rfl,H⟩:=hF.first (zco _))
  go_ret2;exact⟨by rw [q.out.1,q.out.2];rfl,g.trans H⟩
 ·have l:zcL s a p=false:=by simpa using hT
  have q:=za (show zaG s a p=ByteArray.empty∧zbD s a p=false by unfold zaG zbD;rw [l];exact⟨rfl,rfl⟩);have F:=za (show (zk s&&(zj a&&zj p))=false from l);clear hT l;cases x:zk s<;>cases h2:zj a<;>cases h3:zj p
  all_goals first
   |(exfalso;have:=F.out;rw [x,h2,h3] at this;cases this;done)
   |(have X:=za x
     have Y:=za h2;have Z:=za h3;clear x h2 h3
     go_enter Tryz.func52,Tryz.ntmps52
     go_upto_region 1 with fail
     generalize ((w.alloc _).alloc _).alloc _=w1 at *;have c1:=t.cell;go_wp2_with (first
      |(go_at_call 65;with_reducible refine (O.out _ j).mono ?_;rw [X.out];rintro e w2 ⟨rfl,hx2⟩;have b:=j.trans hx2;have c2:=(u.ext hx2).cell)
      |(go_at_call 25;with_reducible refine (L.out _ b).mono ?_;rw [Y.out];rintro e w3 ⟨rfl,f⟩;have d:=b.trans f;have S:=(v.ext (hx2.trans f)).cell)
      |(go_at_call 25;with_reducible refine (M.out _ d).mono ?_;rw [Z.out];rintro e J ⟨rfl,k⟩;have m:=d.trans k))
     go_ret2;exact⟨by rw [q.out.1,q.out.2];rfl,by first|exact m|exact d|exact b⟩)
variable {k:Nat} {ss:List Sys}
theorem zbL (h:zdG w lo hi A k ss)(hp:zF w lo2 hi2 C m2 C' m2' p)(hT:Tab w) :
  Calls Tryz.prog 30 #[.slice A k c,.agg #[p.al,.slice C m2 d2,.slice C' m2' d2']] w fun e w'=>e=.returned (.tuple #[.string (zR ss p),.bool (zbf ss p)])∧Ext w w':=by
 have j:=za (fun W (hW:Ext w W)=>h.ext hW);have m:=za (fun W (hW:Ext w W)=>hp.ext hW);have s:=za (fun W (hW:Ext w W)=>hT.ext hW);clear h hp hT;have a:Ext w (w.alloc (.cells #[p.al,.slice C m2 d2,.slice C' m2' d2'] 27)):=(dE w).alloc _;have n:=eX w 27 #[p.al,.slice C m2 d2,.slice C' m2' d2'];cases hA:zy ss
 ·have g:=za (show zR ss p=ByteArray.empty∧zbf ss p=false by unfold zR zbf zbi;rw [hA];exact⟨rfl,rfl⟩);have i:=za hA;clear hA
  go_enter Tryz.func30,Tryz.ntmps30
  go_upto_region 1 with fail
  generalize w.alloc _=q at *;go_wp2_with (go_at_call 78;refine (zaN (j.out _ a)).mono ?_;rw [i.out];rintro e r ⟨rfl,hx2⟩)
  go_ret2;exact⟨by rw [g.out.1,g.out.2];rfl,a.trans hx2⟩
 ·cases hV:zj p
  ·have g:=za (show zR ss p=ByteArray.empty∧zbf ss p=false by unfold zR zbf zbi;rw [hA,hV];exact⟨rfl,rfl⟩);have l:=za hV;have i:=za hA;clear hA hV
   go_enter Tryz.func30,Tryz.ntmps30
   go_upto_region 1 with fail
   generalize w.alloc _=q at *;go_wp2_with (first
    |(go_at_call 78;refine (zaN (j.out _ a)).mono ?_;rw [i.out];rintro e r ⟨rfl,hx2⟩;have d:=a.trans hx2;have c2:=(n.ext hx2).cell)
    |(go_at_call 25;refine (zaa _ _ _ _ _ _ _ _ _ _ (m.out _ d)).mono ?_;rw [l.out];rintro e t ⟨rfl,f⟩;have b:=d.trans f))
   go_ret2;exact⟨by rw [g.out.1,g.out.2];rfl,b⟩
  ·have g:=za (show zR ss p=vioW ss free p∧zbf ss p=zje ss free p by unfold zR zbf zbi;rw [hA,hV];exact⟨rfl,sM⟩);have l:=za hV;have i:=za hA;clear hA hV
   go_enter Tryz.func30,Tryz.ntmps30
   go_upto_region 1 with fail
   generalize w.alloc _=q at *;go_wp2_with (first
    |(go_at_call 78;refine (zaN (j.out _ a)).mono ?_;rw [i.out];rintro e r ⟨rfl,hx2⟩;have d:=a.trans hx2;have c2:=(n.ext hx2).cell)
    |(go_at_call 25;refine (zaa _ _ _ _ _ _ _ _ _ _ (m.out _ d)).mono ?_;rw [l.out];rintro e t ⟨rfl,f⟩;have b:=d.trans f;have u:=(n.ext (hx2.trans f)).cell)
    |(go_at_call 84;refine (zfc (c:=c) (d2:=d2) (d2':=d2') (j.out _ b) i.out (s.out _ b) (m.out _ b) l.out).mono ?_;rintro e v hF;obtain⟨rfl,o⟩:=hF.first (zco _)))
   go_ret2;exact⟨by rw [g.out.1,g.out.2];rfl,b.trans o⟩
end
def three (ss:List Sys) (p:Aut):Bool:=decide (ss.length=3)&&(zy ss&&zj p)
theorem zfZ (h:zdG w lo hi A n ss)(h':zF w lo' hi' B m B' m' p) :
  Calls Tryz.prog 130 #[.slice A n c,.agg #[p.al,.slice B m d,.slice B' m' d']] w fun e w'=>e=.returned (.bool (three ss p))∧Ext w w':=by
 have o:=h.len;have g:=za h.1;have i:=fun W (hW:Ext w W)=>h'.ext hW;have l:=za i;clear i h'
 by_cases h3:n=3
 ·subst h3;clear o;cases hp:zy ss
  ·have a:=za (show ¬ (0:Int)<=zaZ ss by unfold zaZ;rw [hp];simp);have a:=a.out;have f:=za hp;clear hp
   go_enter Tryz.func130,Tryz.ntmps130
   go_wp2_with fail
   refine (zaC (h.ext ?_)).mono ?_
   ·exact (dE _).alloc _
   rintro e q ⟨rfl,b⟩;go_wp2_with fail
   go_ret;exact⟨zu (by unfold three;rw [f.out];simp),((dE _).alloc _).trans b⟩
  ·have k:zaZ ss≥0:=by unfold zaZ;rw [hp];simp
   have f:=za hp;clear hp
   go_enter Tryz.func130,Tryz.ntmps130
   go_wp2_with fail
   refine (zaC (h.ext ?_)).mono ?_
   ·exact (dE _).alloc _
   rintro e q ⟨rfl,b⟩;have c1:=fun j=>zcm (j:=j) b;go_wp2_with fail
   refine (zQ _ _ _ _ _ _ _ _ _ _ (l.out _ (((dE _).alloc _).trans b))).mono (mQ fun r hx2=>?_);go_wp2_with fail
   go_ret;exact⟨zu (by have:=g.out;unfold three;rw [f.out,decide_eq_true oM];simp),(((dE _).alloc _).trans b).trans hx2⟩
 ·go_enter Tryz.func130,Tryz.ntmps130
  go_wp2;go_ret;exact⟨zu (by have:=g.out;unfold three;rw [decide_eq_false oM];simp),(dE _).alloc _⟩
def zay (ss:List Sys) (p:Aut):Int:=
 if three ss p then match ss with
  |[x,y,z]=>bits .and .i64 (bits .or .i64 x.al p.al) (bits .or .i64 y.al z.al)
  |_ => -1
 else -1
def zcb (ss:List Sys) (p:Aut):Int:=
 if three ss p then match ss with
  |[_,y,z]=>bits .and .i64 (bits .or .i64 y.al (zay ss p)) z.al
  |_ => -1
 else -1
theorem zdX (h:three ss p=true):∃ x y z,ss=[x,y,z]:=by
 simp only [three,eD,decide_eq_true_eq] at h
 match ss,h.1 with
 |[x,y,z],_=>exact⟨x,y,z,rfl⟩
theorem yY06a11 {P:Prop}(h:P:=by
 intro W hW;have h:=h.ext hW;obtain⟨b,o,s,B,q,d,rfl,hlo,hhi,hs,c0,c1,c2,hsy⟩:=h.sys (k:=0) oM;obtain rfl:x=s:=by have:=hs.out;simpa using this
 obtain⟨B1,q1,d1,e0,e1,e2,hsy1⟩:=h.ax (k:=1) (s:=y) rfl;obtain⟨B2,q2,d2,g0,g1,g2,hsy2⟩:=h.ax (k:=2) (s:=z) rfl;exact⟨b,o,rfl,by simpa using c0,e0,g0⟩
 ):P:=h
theorem zdS (h:zdG w lo hi A n ss)(h':zF w lo' hi' B m B' m' p) :
  Calls Tryz.prog 56 #[.slice A n c,.agg #[p.al,.slice B m d,.slice B' m' d']] w fun e w'=>e=.returned (.tuple #[.int .i64 (zay ss p),.int .i64 (zcb ss p)])∧Ext w w':=by
 cases hT:three ss p
 ·have a:=za (show zay ss p = -1 by unfold zay;rw [hT];rfl);have f:=za (show zcb ss p = -1 by unfold zcb;rw [hT];rfl);have i:=za hT;clear hT
  go_enter Tryz.func56,Tryz.ntmps56
  go_wp2_with (go_at_call 130;refine (zfZ (h.ext ?_) (h'.ext ?_)).mono ?_;exact (dE _).alloc _;exact (dE _).alloc _;rw [i.out];rintro e l ⟨rfl,g⟩)
  go_ret2;exact⟨by rw [a.out,f.out];rfl,((dE _).alloc _).trans g⟩
 ·obtain⟨x,y,z,rfl⟩:=zdX hT;have a:=za (show zay [x,y,z] p=bits .and .i64 (bits .or .i64 x.al p.al) (bits .or .i64 y.al z.al) by unfold zay;rw [hT];rfl);have f:=za (show zcb [x,y,z] p=bits .and .i64 (bits .or .i64 y.al (zay [x,y,z] p)) z.al by rw [zcb,hT];rfl);have i:=za hT;clear hT;obtain rfl:n=3:=h.1;have k:∀ W,Ext w W->∃ b o,A=some ⟨b,o,none⟩∧W.cell? ⟨b,o,none⟩=some (.int .i64 x.al)∧W.cell? ⟨b,o+3,none⟩=some (.int .i64 y.al)∧W.cell? ⟨b,o+6,none⟩=some (.int .i64 z.al):=by
   exact yY06a11
  have q:=za k;clear k
  go_enter Tryz.func56,Tryz.ntmps56
  go_wp2_with (go_at_call 130;refine (zfZ (h.ext ?_) (h'.ext ?_)).mono ?_;exact (dE _).alloc _;exact (dE _).alloc _;rw [i.out];rintro e l ⟨rfl,g⟩;obtain⟨b,o,rfl,c0,c1,c2⟩:=q.out l (((dE _).alloc _).trans g);have r:=fun j=>zcm (j:=j) g)
  go_quiet (fail)
  go_wp2_with fail
  go_quiet (fail)
  go_wp2_with fail
  go_ret2;exact⟨by rw [f.out,a.out];rfl,((((dE _).alloc _).trans g).drewN _).drewN _⟩
theorem zdL (h:zdG w lo hi A n ss)(h':zF w lo' hi' B m B' m' p) :
  Calls Tryz.prog 23 #[.slice A n c,.agg #[p.al,.slice B m d,.slice B' m' d']] w fun e w'=>e=.returned (.tuple #[.int .i64 (zay ss p),.int .i64 (zcb ss p)])∧Ext w w':=by
 have r:=fun W (hW:Ext w W)=>h'.ext hW;have q:=za r;clear r h';cases hT:three ss p
 ·have f:=za (show zay ss p = -1 by unfold zay;rw [hT];rfl);have g:=za (show zcb ss p = -1 by unfold zcb;rw [hT];rfl)
  by_cases h3:n=3
  ·subst h3;have a:(zy ss&&zj p)=false:=by
    have:=h.1;unfold three at hT;rw [decide_eq_true oM,Bool.true_and] at hT;exact hT
   clear hT;cases hp:zy ss
   ·have k:=za hp;clear hp a
    go_enter Tryz.func23,Tryz.ntmps23
    go_wp2_with (go_at_call 78;refine (zaN (h.ext ?_)).mono ?_;exact (dE _).alloc _;rw [k.out];rintro e t ⟨rfl,i⟩)
    go_ret2;exact⟨by rw [f.out,g.out];rfl,((dE _).alloc _).trans i⟩
   ·rw [hp,Bool.true_and] at a;have k:=za hp;have l:=za a;clear hp a
    go_enter Tryz.func23,Tryz.ntmps23
    go_wp2_with (first
     |(go_at_call 78;refine (zaN (h.ext ?_)).mono ?_;exact (dE _).alloc _;rw [k.out];rintro e t ⟨rfl,i⟩;have c1:=fun j=>zcm (j:=j) i)
     |(go_at_call 25;refine (zaa _ _ _ _ _ _ _ _ _ _ (q.out _ (((dE _).alloc _).trans i))).mono ?_;rw [l.out];rintro e u ⟨rfl,hx2⟩))
    go_ret2;exact⟨by rw [f.out,g.out];rfl,(((dE _).alloc _).trans i).trans hx2⟩
  ·have hne:((n:Int) != 3)=true:=by simp;omega
   clear hT
   go_enter Tryz.func23,Tryz.ntmps23
   go_wp2;go_ret2;exact⟨by rw [f.out,g.out];rfl,(dE _).alloc _⟩
 ·obtain⟨x,y,z,rfl⟩:=zdX hT;have f:=za (show zay [x,y,z] p=bits .and .i64 (bits .or .i64 x.al p.al) (bits .or .i64 y.al z.al) by unfold zay;rw [hT];rfl);have g:=za (show zcb [x,y,z] p=bits .and .i64 (bits .or .i64 y.al (zay [x,y,z] p)) z.al by rw [zcb,hT];rfl);obtain rfl:n=3:=h.1;have a:=hT;simp only [three,eD] at a;have k:=za a.2.1;have l:=za a.2.2;clear hT a;have s:∀ W,Ext w W->∃ b o,A=some ⟨b,o,none⟩∧W.cell? ⟨b,o,none⟩=some (.int .i64 x.al)∧W.cell? ⟨b,o+3,none⟩=some (.int .i64 y.al)∧W.cell? ⟨b,o+6,none⟩=some (.int .i64 z.al):=by
   exact yY06a11
  have v:=za s;clear s
  go_enter Tryz.func23,Tryz.ntmps23
  go_wp2_with (first
   |(go_at_call 78;refine (zaN (h.ext ?_)).mono ?_;exact (dE _).alloc _;rw [k.out];rintro e t ⟨rfl,i⟩;have c1:=fun j=>zcm (j:=j) i)
   |(go_at_call 25;refine (zaa _ _ _ _ _ _ _ _ _ _ (q.out _ (((dE _).alloc _).trans i))).mono ?_;rw [l.out];rintro e u ⟨rfl,hx2⟩;obtain⟨b,o,rfl,g0,g1,g2⟩:=v.out u ((((dE _).alloc _).trans i).trans hx2);have C:=fun j=>zcm (j:=j) (i.trans hx2)))
  go_quiet (fail)
  go_wp2_with fail
  go_quiet (fail)
  go_wp2_with fail
  go_ret2;exact⟨by rw [g.out,f.out];rfl,(((((dE _).alloc _).trans i).trans hx2).drewN _).drewN _⟩
theorem zgo {x y z:Sys} (h:three [x,y,z] p=true):∃ c:Nat,zay [x,y,z] p=(c:Int)∧c<=63:=by
 have f:=h;simp only [three,eD] at f;obtain⟨_,g⟩:=zao f.2.1;have q:=zG (g x sM);have r:=zG (g y sM);have s:=zG (g z sM);have o:=(zl f.2.2).1;unfold zay;rw [h,if_pos rfl];obtain⟨a,i⟩:∃ a:Nat,x.al=a:=⟨x.al.toNat,oM⟩;obtain⟨b,j⟩:∃ a:Nat,y.al=a:=⟨y.al.toNat,oM⟩;obtain⟨c,k⟩:∃ a:Nat,z.al=a:=⟨z.al.toNat,oM⟩;obtain⟨d,l⟩:∃ a:Nat,p.al=a:=⟨p.al.toNat,oM⟩;dsimp only;rw [i,j,k,l];have e1:=e7 (n:=6) (x:=a) (y:=d) oM oM;have e2:=e7 (n:=6) (x:=b) (y:=c) oM oM;rw [zbb tM tM,zbb tM tM,zbZ tM tM];refine⟨_,rfl,?_⟩;have:=Nat.and_le_left (n:=a|||d) (m:=b|||c);omega
noncomputable def faultN (ss:List Sys) (p f g:Aut):Int:=
 if (three ss p&&(zj f&&zj g))=false then 1
 else if (decide (f.al=zay ss p)&&decide (g.al=zcb ss p))=false then 2
 else match ss with
  |[x,y,z]=>if (zcK x f p&&zcK y g f)=false then 3 else if zcf [z] g=false then 4 else 0
  |_=>0
def iface (s:Sys) (p:Aut) (t:Sys):Int:=if (zk s&&(zj p&&zk t))=true then (((s.al.toNat|||p.al.toNat)&&&t.al.toNat:Nat):Int) else -1
section
variable {lo hi n c:Nat} {A:Option Addr} {s:Sys} {lo1 hi1 m1 d1 m1' d1':Nat} {B B':Option Addr} {p:Aut} {lo2 hi2 k c2:Nat} {C:Option Addr} {t:Sys} {w:World}
theorem zet (h:zV w lo hi A n s)(hp:zF w lo1 hi1 B m1 B' m1' p)(ht:zV w lo2 hi2 C k t) :
  Calls Tryz.prog 95 #[.agg #[s.al,s.st,.slice A n c],.agg #[p.al,.slice B m1 d1,.slice B' m1' d1'],.agg #[t.al,t.st,.slice C k c2]] w fun e w'=>e=.returned (.int .i64 (iface s p t))∧Ext w w':=by
 have E:=za (fun W (hW:Ext w W)=>zat (c:=c) (h.ext hW));have D:=za (fun W (hW:Ext w W)=>zQ _ _ _ _ d1 _ _ d1' _ _ (hp.ext hW));have F:=za (fun W (hW:Ext w W)=>zat (c:=c2) (ht.ext hW));clear h hp ht;cases h1:zk s<;>cases h2:zj p<;>cases h3:zk t
 case true.true.true =>
  have u:=za h1;have v:=za h2;have z:=za h3;have L:=zG h1;have M:=(zl h2).1;have O:=zG h3;obtain⟨a,G⟩:∃ a:Nat,Hid (s.al=a):=⟨s.al.toNat,by unfold Hid;omega⟩;obtain⟨b,H⟩:∃ a:Nat,Hid (p.al=a):=⟨p.al.toNat,by unfold Hid;omega⟩;obtain⟨d,I⟩:∃ a:Nat,Hid (t.al=a):=⟨t.al.toNat,by unfold Hid;omega⟩;have J:=za (show iface s p t=((((a|||b)&&&d:Nat)):Int) by unfold iface;rw [h1,h2,h3,G.out,H.out,I.out];rfl);rw [G.out] at L;rw [H.out] at M;rw [I.out] at O;have X:a<=63:=oM;have Y:b<=63:=oM;have Z:d<=63:=oM;have R:=e7 (n:=6) (x:=a) (y:=b) oM oM;have ho:=zbb (a:=a) (b:=b) tM tM;have hn:=zbZ (a:=a|||b) (b:=d) tM tM;clear h1 h2 h3 L M O R;rw [G.out] at E ⊢;rw [H.out] at D ⊢;rw [I.out] at F ⊢
  go_enter Tryz.func95,Tryz.ntmps95
  go_upto_region 1 with fail
  generalize U0:((w.alloc _).alloc _).alloc _=S at *;obtain⟨l,o,q,r⟩:=Ext.x3_ U0;clear U0;have c1:=o.cell;go_wp2_with (first
   |(go_at_call 185;with_reducible refine (E.out _ l).mono ?_;rw [u.out];rintro e T ⟨rfl,hx2⟩;have g:=l.trans hx2;have c2:=(q.ext hx2).cell)
   |(go_at_call 79;with_reducible refine (D.out _ g).mono ?_;rw [v.out];rintro e U ⟨rfl,f⟩;have i:=g.trans f;have Q:=(r.ext (hx2.trans f)).cell)
   |(go_at_call 185;with_reducible refine (F.out _ i).mono ?_;rw [z.out];rintro e V ⟨rfl,j⟩;have m:=i.trans j;have k1:=(o.ext (hx2.trans (f.trans j))).cell;have k2:=(q.ext (hx2.trans (f.trans j))).cell;have k3:=(r.ext (hx2.trans (f.trans j))).cell))
  go_ret;exact⟨zap (by rw [J.out]),m⟩
 all_goals
  have J:=za (show iface s p t = -1 by unfold iface;rw [h1,h2,h3];rfl);have u:=za h1;have v:=za h2;have z:=za h3;clear h1 h2 h3
  go_enter Tryz.func95,Tryz.ntmps95
  go_upto_region 1 with fail
  generalize U0:((w.alloc _).alloc _).alloc _=S at *;obtain⟨l,o,q,r⟩:=Ext.x3_ U0;clear U0;have c1:=o.cell;go_wp2_with (first
   |(go_at_call 185;with_reducible refine (E.out _ l).mono ?_;rw [u.out];rintro e T ⟨rfl,hx2⟩;have g:=l.trans hx2;have c2:=(q.ext hx2).cell)
   |(go_at_call 79;with_reducible refine (D.out _ g).mono ?_;rw [v.out];rintro e U ⟨rfl,f⟩;have i:=g.trans f;have Q:=(r.ext (hx2.trans f)).cell)
   |(go_at_call 185;with_reducible refine (F.out _ i).mono ?_;rw [z.out];rintro e V ⟨rfl,j⟩;have m:=i.trans j))
  go_ret;exact⟨zap (by rw [J.out]),by first|exact m|exact i|exact g⟩
theorem zes (h:zV w lo hi A n s)(hp:zF w lo1 hi1 B m1 B' m1' p)(ht:zV w lo2 hi2 C k t) :
  Calls Tryz.prog 83 #[.agg #[s.al,s.st,.slice A n c],.agg #[p.al,.slice B m1 d1,.slice B' m1' d1'],.agg #[t.al,t.st,.slice C k c2]] w fun e w'=>e=.returned (.int .i64 (iface s p t))∧Ext w w':=by
 have E:=za (fun W (hW:Ext w W)=>zaE (c:=c) (h.ext hW));have D:=za (fun W (hW:Ext w W)=>zaa _ _ _ _ d1 _ _ d1' _ _ (hp.ext hW));have F:=za (fun W (hW:Ext w W)=>zaE (c:=c2) (ht.ext hW));clear h hp ht;cases h1:zk s<;>cases h2:zj p<;>cases h3:zk t
 case true.true.true =>
  have u:=za h1;have v:=za h2;have z:=za h3;have L:=zG h1;have M:=(zl h2).1;have O:=zG h3;obtain⟨a,G⟩:∃ a:Nat,Hid (s.al=a):=⟨s.al.toNat,by unfold Hid;omega⟩;obtain⟨b,H⟩:∃ a:Nat,Hid (p.al=a):=⟨p.al.toNat,by unfold Hid;omega⟩;obtain⟨d,I⟩:∃ a:Nat,Hid (t.al=a):=⟨t.al.toNat,by unfold Hid;omega⟩;have J:=za (show iface s p t=((((a|||b)&&&d:Nat)):Int) by unfold iface;rw [h1,h2,h3,G.out,H.out,I.out];rfl);rw [G.out] at L;rw [H.out] at M;rw [I.out] at O;have X:a<=63:=oM;have Y:b<=63:=oM;have Z:d<=63:=oM;have R:=e7 (n:=6) (x:=a) (y:=b) oM oM;have ho:=zbb (a:=a) (b:=b) tM tM;have hn:=zbZ (a:=a|||b) (b:=d) tM tM;clear h1 h2 h3 L M O R;rw [G.out] at E ⊢;rw [H.out] at D ⊢;rw [I.out] at F ⊢
  go_enter Tryz.func83,Tryz.ntmps83
  go_upto_region 1 with fail
  generalize U0:((w.alloc _).alloc _).alloc _=S at *;obtain⟨l,o,q,r⟩:=Ext.x3_ U0;clear U0;have c1:=o.cell;go_wp2_with (first
   |(go_at_call 65;with_reducible refine (E.out _ l).mono ?_;rw [u.out];rintro e T ⟨rfl,hx2⟩;have g:=l.trans hx2;have c2:=(q.ext hx2).cell)
   |(go_at_call 25;with_reducible refine (D.out _ g).mono ?_;rw [v.out];rintro e U ⟨rfl,f⟩;have i:=g.trans f;have Q:=(r.ext (hx2.trans f)).cell)
   |(go_at_call 65;with_reducible refine (F.out _ i).mono ?_;rw [z.out];rintro e V ⟨rfl,j⟩;have m:=i.trans j;have k1:=(o.ext (hx2.trans (f.trans j))).cell;have k2:=(q.ext (hx2.trans (f.trans j))).cell;have k3:=(r.ext (hx2.trans (f.trans j))).cell))
  go_ret;exact⟨zap (by rw [J.out]),m⟩
 all_goals
  have J:=za (show iface s p t = -1 by unfold iface;rw [h1,h2,h3];rfl);have u:=za h1;have v:=za h2;have z:=za h3;clear h1 h2 h3
  go_enter Tryz.func83,Tryz.ntmps83
  go_upto_region 1 with fail
  generalize U0:((w.alloc _).alloc _).alloc _=S at *;obtain⟨l,o,q,r⟩:=Ext.x3_ U0;clear U0;have c1:=o.cell;go_wp2_with (first
   |(go_at_call 65;with_reducible refine (E.out _ l).mono ?_;rw [u.out];rintro e T ⟨rfl,hx2⟩;have g:=l.trans hx2;have c2:=(q.ext hx2).cell)
   |(go_at_call 25;with_reducible refine (D.out _ g).mono ?_;rw [v.out];rintro e U ⟨rfl,f⟩;have i:=g.trans f;have Q:=(r.ext (hx2.trans f)).cell)
   |(go_at_call 65;with_reducible refine (F.out _ i).mono ?_;rw [z.out];rintro e V ⟨rfl,j⟩;have m:=i.trans j))
  go_ret;exact⟨zap (by rw [J.out]),by first|exact m|exact i|exact g⟩
end
noncomputable def faultA (s t:Sys) (p a:Aut):Int:=if iface s p t<0∨zj a=false then 1 else if a.al≠iface s p t then 2 else if zcK s a p=false then 3 else if zcf [t] a=false then 4 else 0
end Go.Proofs.YtckbjnndaaoddaaGreatDoor
