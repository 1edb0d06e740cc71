/- impl.firstBr -/
import Derived.Test.YtckbjnndaaoddaaGreatDoorX05
set_option maxHeartbeats 8000000
set_option maxRecDepth 100000
namespace Go.Proofs.YtckbjnndaaoddaaGreatDoor
open Go Go.RowKit
open Blk renaming new->eB
open Bool renaming and_eq_true->dI,eq_false_iff->eV,false->j3,true->jV
open Ext renaming bl_->dZ,refl->cY,x3_->jK
open Int renaming natCast_mul->fX
open List renaming all_eq_true->eK,getElem?_of_mem->eA,mem_of_getElem?->dD,take_of_length_le->dK,getElem?_eq_some_iff->kB
open Nat renaming ne_of_lt->e7,or_lt_two_pow->eQ,pow_le_pow_right->eE,testBit_and->fQ
open Go renaming Calls->j8
open Go.Ending renaming returned->j7
open Go.IntKind renaming i64->iX
open Go.Value renaming agg->j4,bool->j9,pointer->kD,slice->fF
open Option renaming none->fW,some->fV
open Option.some renaming inj->kA
open _root_.Go.Proofs.Tryz renaming prog->j5
variable {a hi k lo:Nat} {p:Aut} {s:ByteArray} {ss:List Sys} {w:World}
theorem yX06d1 {P:Prop}(h:P:=by
 have Kh10:=h10.cell 0;have Zh10:=h10.frozen 0;refine zb fun K hK=>?_;go_simp;have hx2:=hx0.frm (Frm.setCell w23 g10 0 (.slice UA a.next.length uc)) (fun k hk e=>oH hGh10);have hA2:=hA.set h10 dM (.slice UA a.next.length uc);have hP2:=hP.set h10 dM (.slice UA a.next.length uc);have h102:Blk (w23.setCell g10 (.slice UA a.next.length uc)) g10 148 #[.slice UA a.next.length uc]:=by simpa using h10.ae 0 (.slice UA a.next.length uc)
 have h112:=h11.far (p:=⟨g10,0,none⟩) (by first|exact hne|exact hne.symm) (.slice UA a.next.length uc)
 refine hK.out _ _ ?_;refine pT ?_;clear hA hP h10 h11 Kh10 Zh10 hx0;generalize w23.setCell g10 (.slice UA a.next.length uc)=w24 at *;have hA:=hA2;have hP:=hP2;have h10:=h102;have h11:=h112;have hx0:=hx2;clear hA2 hP2 h102 h112 hx2;have Kh11:=h11.cell 0;have Zh11:=h11.frozen 0;refine zb fun K hK=>?_;go_simp;have hx2:=hx0.frm (Frm.setCell w24 g11 0 (.slice RA p.next.length rc)) (fun k hk e=>oH hGh11);have hA2:=hA.set h11 dM (.slice RA p.next.length rc);have hP2:=hP.set h11 dM (.slice RA p.next.length rc);have h112:Blk (w24.setCell g11 (.slice RA p.next.length rc)) g11 148 #[.slice RA p.next.length rc]:=by simpa using h11.ae 0 (.slice RA p.next.length rc)
 have h102:=h10.far (p:=⟨g11,0,none⟩) (by first|exact hne|exact hne.symm) (.slice RA p.next.length rc)
 refine hK.out _ _ ?_;refine pT ?_;clear hA hP h10 h11 Kh11 Zh11 hx0;generalize w24.setCell g11 (.slice RA p.next.length rc)=w25 at *;have hA:=hA2;have hP:=hP2;have h10:=h102;have h11:=h112;have hx0:=hx2;clear hA2 hP2 h102 h112 hx2;refine zg ?_;go_wp2_with fail
 go_meet;exact⟨g10,g11,UA,RA,uc,rc,rfl,rfl,hx0,h10,h11,hA,hP⟩
 ):P:=h
theorem yX06c1 {P:Prop}(h:P:=by
 refine zb fun K hK=>?_;go_simp;refine (hTP.out _ hx0).mono ?_;rintro e w23 ⟨RA,rc,rfl,hP,hx1⟩;replace hx0:=hx0.trans hx1;replace h10:=h10.ext hx1;replace h11:=h11.ext hx1;replace hA:=hA.ext hx1;clear hx1;refine hK.out _ _ ?_;refine pT ?_;exact yX06d1
 ):P:=h
theorem yX06b1 {P:Prop}(h:P:=by
 refine ze fun K hK=>?_;go_simp;refine (hTA.out _ hx0).mono ?_;rintro e w22 ⟨UA,uc,rfl,hA,hx1⟩;replace hx0:=hx0.trans hx1;replace h10:=h10.ext hx1;replace h11:=h11.ext hx1;clear hx1;refine hK.out _ _ hx0 ?_;refine pT ?_;exact yX06c1
 ):P:=h
theorem yX06c2 {P:Prop}(h:P:=by
 exact yX06d1
 ):P:=h
theorem yX06b3 {P:Prop}(h:P:=by
 refine ze fun K hK=>?_;go_simp;have hne:=Nat.ne_of_lt h11.lt;have hGh10:=hx0.size;have hx1:=(Ext.refl w22).alloc (.cells #[()] 148);replace hx0:=hx0.trans hx1;replace h11:=h11.ext hx1;replace hA:=hA.ext hx1;replace hP:=hP.ext hx1;clear hx1;refine hK.out _ _ hx0 ?_;refine pT ?_;generalize U0:w22.alloc _=w23 at *;have h10:=Ext.bl_ U0;clear U0;generalize w22.heap.size=g10 at *;exact yX06c2
 ):P:=h
theorem yX06b4 {P:Prop}(h:P:=by
 exact yX06c1
 ):P:=h
theorem reads_blk {g:Nat} {t:TypeId} {v:Value}(h:Blk w g t #[v])(h1:lo<=g)(h2:g<hi):Reads w lo hi 1 (fV ⟨g,0,fW⟩) 1 [v]:=
 ⟨rfl,oM,fun _=>⟨_,rfl,h1,h2,fun j u hu=>by
  rw [zad,Nat.zero_add,h.cell]
  simpa using hu⟩⟩
theorem yX06a1 {P:Prop}(h:P:=by
 refine zm (fun K hK=>?_) (fun K hK=>?_)
 ·go_simp;refine (hTA.out _ hx0).mono ?_;rintro e w21 ⟨UA,uc,rfl,hA,hx1⟩;replace hx0:=hx0.trans hx1;replace h11:=h11.ext hx1;clear hx1;refine hK.out _ _ hx0 ?_;refine pT ?_;refine zm (fun K hK=>?_) (fun K hK=>?_)
  ·go_simp;refine (hTP.out _ hx0).mono ?_;rintro e w22 ⟨RA,rc,rfl,hP,hx1⟩;replace hx0:=hx0.trans hx1;replace h11:=h11.ext hx1;replace hA:=hA.ext hx1;clear hx1;refine hK.out _ _ hx0 ?_;refine pT ?_;exact yX06b3
  ·go_simp;have hne:=Nat.ne_of_lt h11.lt;have hGh10:=hx0.size;have hx1:=(Ext.refl w21).alloc (.cells #[()] 148);replace hx0:=hx0.trans hx1;replace h11:=h11.ext hx1;replace hA:=hA.ext hx1;clear hx1;refine hK.out _ _ hx0 ?_;refine pT ?_;generalize U0:w21.alloc _=w22 at *;have h10:=Ext.bl_ U0;clear U0;generalize w21.heap.size=g10 at *;exact yX06b4
 ·go_simp;have hne:=Nat.ne_of_lt h11.lt;have hGh10:=hx0.size;have hx1:=(Ext.refl w20).alloc (.cells #[()] 148);replace hx0:=hx0.trans hx1;replace h11:=h11.ext hx1;clear hx1;refine hK.out _ _ hx0 ?_;refine pT ?_;generalize U0:w20.alloc _=w21 at *;have h10:=Ext.bl_ U0;clear U0;generalize w20.heap.size=g10 at *;exact yX06b1
 ):P:=h
theorem yX06b2 {P:Prop}(h:P:=by
 refine ze fun K hK=>?_;go_simp;have hne:=Nat.ne_of_lt h10.lt;have hGh11:=hx0.size;have hx1:=(Ext.refl w22).alloc (.cells #[()] 148);replace hx0:=hx0.trans hx1;replace h10:=h10.ext hx1;replace hA:=hA.ext hx1;replace hP:=hP.ext hx1;clear hx1;refine hK.out _ _ hx0 ?_;refine pT ?_;generalize U0:w22.alloc _=w23 at *;have h11:=Ext.bl_ U0;clear U0;generalize w22.heap.size=g11 at *;exact yX06c2
 ):P:=h
theorem yX06a2 {P:Prop}(h:P:=by
 refine zm (fun K hK=>?_) (fun K hK=>?_)
 ·go_simp;refine (hTA.out _ hx0).mono ?_;rintro e w21 ⟨UA,uc,rfl,hA,hx1⟩;replace hx0:=hx0.trans hx1;replace h10:=h10.ext hx1;clear hx1;refine hK.out _ _ hx0 ?_;refine pT ?_;refine zm (fun K hK=>?_) (fun K hK=>?_)
  ·go_simp;refine (hTP.out _ hx0).mono ?_;rintro e w22 ⟨RA,rc,rfl,hP,hx1⟩;replace hx0:=hx0.trans hx1;replace h10:=h10.ext hx1;replace hA:=hA.ext hx1;clear hx1;refine hK.out _ _ hx0 ?_;refine pT ?_;exact yX06b2
  ·go_simp;have hne:=Nat.ne_of_lt h10.lt;have hGh11:=hx0.size;have hx1:=(Ext.refl w21).alloc (.cells #[()] 148);replace hx0:=hx0.trans hx1;replace h10:=h10.ext hx1;replace hA:=hA.ext hx1;clear hx1;refine hK.out _ _ hx0 ?_;refine pT ?_;generalize U0:w21.alloc _=w22 at *;have h11:=Ext.bl_ U0;clear U0;generalize w21.heap.size=g11 at *;exact yX06b4
 ·go_simp;have hne:=Nat.ne_of_lt h10.lt;have hGh11:=hx0.size;have hx1:=(Ext.refl w20).alloc (.cells #[()] 148);replace hx0:=hx0.trans hx1;replace h10:=h10.ext hx1;clear hx1;refine hK.out _ _ hx0 ?_;refine pT ?_;generalize U0:w20.alloc _=w21 at *;have h11:=Ext.bl_ U0;clear U0;generalize w20.heap.size=g11 at *;exact yX06b1
 ):P:=h
theorem yX06c3 {P:Prop}(h:P:=by
 refine zb fun K hK=>?_;go_simp;refine (key.out _ hx0 _ _ _ _ _ hI hIL).mono ?_;rintro e w23 ⟨hx1,hcase⟩;have hx2:=hw9.trans (hx0.trans hx1);rcases hcase with ⟨v,rfl,hF⟩|⟨rfl,hF⟩
 ·have hres:=za (show zS w (zcg ss a p) [0] (zbS a p) (letters (U|||al) 6) _ w23 from ⟨hx2,Or.inl ⟨v,rfl,hF⟩⟩);refine hK.out _ _ ?_;refine pT ?_;refine uQ ?_;refine zg ?_;go_wp2_with fail
  go_ret2;exact hres.out
 ·have hres:=za (show zS w (zcg ss a p) [0] (zbS a p) (letters (U|||al) 6) _ w23 from ⟨hx2,Or.inr ⟨rfl,hF⟩⟩);refine hK.out _ _ ?_;refine pT ?_;refine uQ ?_;refine zg ?_;go_wp2_with fail
  go_ret2;exact hres.out
 ):P:=h
theorem yX06b6 {P:Prop}(h:P:=by
 exact yX06c3
 ):P:=h
theorem yX06a3 {P:Prop}(h:P:=by
 refine hK.out _ _ hx0 ?_;refine pT ?_;refine uQ ?_;refine zm (fun K hK=>?_) (fun K hK=>?_)
 ·go_simp;have hI:=zdw (x:=0) (Blk.new w20 3 #[.int .i64 ((0:Nat):Int)]);have hx1:=(Ext.refl w20).alloc (.cells #[.int .i64 ((0:Nat):Int)] 3);replace hx0:=hx0.trans hx1;clear hx1;refine hK.out _ _ hx0 ?_;refine pT ?_;generalize w20.alloc _=w21 at *;generalize w20.heap.size=g1 at *;refine ze fun K hK=>?_;go_simp;refine (hLT.out w21).mono ?_;rintro e w22 ⟨AL,cL,rfl,hownL,hx1⟩;have hIL:=zay.own hownL;clear hownL;replace hx0:=hx0.trans hx1;replace hI:=hI.ext hx1;clear hx1;refine hK.out _ _ hx0 ?_;refine pT ?_;exact yX06b6
 ·go_simp;refine (hLT.out w20).mono ?_;rintro e w21 ⟨AL,cL,rfl,hownL,hx1⟩;have hIL:=zay.own hownL;clear hownL;replace hx0:=hx0.trans hx1;clear hx1;refine hK.out _ _ hx0 ?_;refine pT ?_;refine ze fun K hK=>?_;go_simp;have hI:=zdw (x:=0) (Blk.new w21 3 #[.int .i64 ((0:Nat):Int)]);have hx1:=(Ext.refl w21).alloc (.cells #[.int .i64 ((0:Nat):Int)] 3);replace hx0:=hx0.trans hx1;replace hIL:=hIL.ext hx1;clear hx1;refine hK.out _ _ hx0 ?_;refine pT ?_;generalize w21.alloc _=w22 at *;generalize w21.heap.size=g1 at *;exact yX06b6
 ):P:=h
theorem yX06a4 {P:Prop}(h:P:=by
 refine ze fun K hK=>?_;go_simp;refine hK.out _ _ hx0 ?_;refine pT ?_;refine uQ ?_;exact yX06b1
 ):P:=h
theorem yX06a5 {P:Prop}(h:P:=by
 exact yX06b2
 ):P:=h
theorem yX06a6 {P:Prop}(h:P:=by
 exact yX06b3
 ):P:=h
theorem yX06a7 {P:Prop}(h:P:=by
 exact yX06b4
 ):P:=h
theorem yX06a8 {P:Prop}(h:P:=by
 have Kh12:=h12.cell 0;have Zh12:=h12.frozen 0;refine ze fun K hK=>?_;go_simp;have hx2:=hx0.frm (Frm.setCell w21 g12 0 (.int .i64 (a.next.length:Nat))) (fun k hk e=>oH hGh12);have h122:Blk (w21.setCell g12 (.int .i64 (a.next.length:Nat))) g12 3 #[.int .i64 (a.next.length:Nat)]:=by simpa using h12.ae 0 (.int .i64 (a.next.length:Nat))
 have h132:=h13.far (p:=⟨g12,0,none⟩) (by first|exact hne|exact hne.symm) (.int .i64 (a.next.length:Nat))
 refine hK.out _ _ hx2 ?_;refine pT ?_;clear h12 h13 Kh12 Zh12 hx0;generalize w21.setCell g12 (.int .i64 (a.next.length:Nat))=w22 at *;have h12:=h122;have h13:=h132;have hx0:=hx2;clear h122 h132 hx2;have Kh13:=h13.cell 0;have Zh13:=h13.frozen 0;refine zb fun K hK=>?_;go_simp;have hx2:=hx0.frm (Frm.setCell w22 g13 0 (.int .i64 (p.next.length:Nat))) (fun k hk e=>oH hGh13);have h132:Blk (w22.setCell g13 (.int .i64 (p.next.length:Nat))) g13 3 #[.int .i64 (p.next.length:Nat)]:=by simpa using h13.ae 0 (.int .i64 (p.next.length:Nat))
 have h122:=h12.far (p:=⟨g13,0,none⟩) (by first|exact hne|exact hne.symm) (.int .i64 (p.next.length:Nat))
 refine hK.out _ _ ?_;refine pT ?_;clear h12 h13 Kh13 Zh13 hx0;generalize w22.setCell g13 (.int .i64 (p.next.length:Nat))=w23 at *;have h12:=h122;have h13:=h132;have hx0:=hx2;clear h122 h132 hx2;refine zg ?_;go_wp2_with fail
 go_meet;exact⟨g12,g13,rfl,rfl,hx0,h12,h13⟩
 ):P:=h
theorem yX06b5 {P:Prop}(h:P:=by
 refine hK.out _ _ hx0 ?_;refine pT ?_;refine uQ ?_;refine ze fun K hK=>?_;go_simp;refine (hLT.out w21).mono ?_;rintro e w22 ⟨AL,cL,rfl,hownL,hx1⟩;have hIL:=zay.own hownL;clear hownL;replace hx0:=hx0.trans hx1;replace hI:=hI.ext hx1;clear hx1;refine hK.out _ _ hx0 ?_;refine pT ?_;exact yX06c3
 ):P:=h
theorem yX06a9 {P:Prop}(h:P:=by
 refine ze fun K hK=>?_;go_simp;refine (hSZ.out _ hx0).mono (mQ fun w21 hx1=>?_);replace hx0:=hx0.trans hx1;replace hI:=hI.ext hx1;clear hx1;exact yX06b5
 ):P:=h
theorem yX06a10 {P:Prop}(h:P:=by
 refine ze fun K hK=>?_;go_simp;exact yX06b5
 ):P:=h
theorem zff {c:Nat} {A:Option Addr}  {C:Option Addr} {m2 d2:Nat} {C':Option Addr} {m2' d2' lo2 hi2:Nat}  
  (h:zhA w lo hi A k ss) (hap:zF ss=jV) (hT:Tab w) (hP0:zK w lo2 hi2 C m2 C' m2' p) (hp:zj p=jV) :
  j8 j5 84 #[fF A k c,kD fW,j4 #[p.al,fF C m2 d2,fF C' m2' d2']] w (zS w (zcg ss free p) [0] (zbS free p) (letters (zG ss|||free.al.toNat) 6)):=by
 have hv:=zdP;obtain⟨a,aw⟩:∃ a,Hid (a=free):=⟨_,rfl⟩;rw [<- aw.out] at hv ⊢;have ae:∀ s∈ss,zl s=jV:=by
  unfold zF at hap;simp only [dI,eK] at hap;exact hap.2.2
 have a7:k<=3:=by
  unfold zF at hap;simp only [dI,decide_eq_true_eq] at hap;have:=h.1;omega
 have F:=za (fun (s:Sys) (hs:s∈ss)=>zcl (ae s hs));have a5:=za (fun (s:Sys) (hs:s∈ss)=>show Few 16 s.edges from by
  obtain⟨q,_,_,hq,hf⟩:=zdo (ae s hs);exact fun e he=>by have:=hf e he;omega)
 have hU:zG ss<=63:=by
  have key:∀ l:List Sys,(∀ s∈l,zl s=jV)->zG l<=63:=by
   intro l hl;have:∀ n,zG (l.take n)<=63:=by
    intro n
    induction n with
    |zero=>simp [zG]
    |succ n ih =>
     rcases Nat.lt_or_ge n l.length with Z|Z
     ·rw [zdl (List.getElem?_eq_getElem Z)];have:=zac (hl _ (List.getElem_mem Z));have:=eQ (n:=6) (x:=zG (l.take n)) (y:=l[n].al.toNat) oM oM;omega
     ·rw [dK oM];rw [dK Z] at ih;exact ih
   have h2:=this l.length;rwa [List.take_length] at h2
  exact key ss ae
 have br:=(zk hv).1;obtain⟨al,J⟩:∃ al:Nat,Hid (a.al=al):=⟨a.al.toNat,by unfold Hid;omega⟩;have bR:al<=63:=oH J.out;have bA:=za (show zck ss=(zG ss:Int) by unfold zck;rw [hap];rfl);have a3:=za (show a.al.toNat=al by have:=J.out;omega);have bS:=za (show 0<=p.al/\p.al<=63 from (zk hp).1);rw [a3.out];have HS:=za (fun W (hW:Ext w W)=>h.ext hW);have HT:=za (fun W (hW:Ext w W)=>hT.ext hW);have HP:=za (fun W (hW:Ext w W)=>hP0.ext hW);have Hv:=za hv;have Hp:=za hp;generalize hUe:zG ss=U at *;have HU:=za hUe;clear hUe h hT hP0 hv hp hap ae br
 go_enter Tryz.func84,Tryz.ntmps84
 go_upto_region 1 with fail
 generalize U0:(w.alloc _).alloc _=w2 at *;obtain⟨O,b4,b5⟩:=Ext.x2_ U0;clear U0;go_upto_region 2 with (go_at_call 66;refine (zgb (HS.out _ O) a5.out oM).mono ?_;rintro e w3 ⟨M,dm,rfl,a9,ag⟩)
 have bE:=O.trans ag;have b8:=eB w3 108 #[fF A k c,fF M k dm];have T:=ag.alloc (.cells #[fF A k c,fF M k dm] 108);have ap:=a9.ext ((cY w3).alloc (.cells #[fF A k c,fF M k dm] 108));have aj:w2.heap.size<=w3.heap.size:=ag.size;generalize hg8:w3.heap.size=g8 at *;clear a9 hg8;generalize w3.alloc _=w4 at *;have aA:=O.trans T;clear bE ag;go_upto_region 3 with (go_at_call 86;refine (zds (HS.out _ aA)).mono ?_;rw [bA.out];rintro e f ⟨rfl,v⟩)
 have Y:=b4.ext (T.trans v);have aN:=b5.ext (T.trans v);have aQ:=b8.ext v;have aq:=ap.ext v;have Q:=aA.trans v;have bd:=(T.trans v).size;have bx:=b5.lt;have a6:=b8.lt;have be:w2.heap.size<=g8:=aj;have k4:=Y.cell 0;have z4:=Y.frozen 0;clear T v b4 b5 b8 ap O aA;go_upto_region 4 with fail
 clear k4 z4;have ad:=eB f 110 #[()];have a8:=(cY f).alloc (.cells #[()] 110);have bb:(f.alloc (.cells #[()] 110)).heap.size=f.heap.size+1:=sM;have L:=eB (f.alloc (.cells #[()] 110)) 4 #[j9 jV];rw [bb] at L;have ay:=(cY (f.alloc (.cells #[()] 110))).alloc (.cells #[j9 jV] 4);have bc:((f.alloc (.cells #[()] 110)).alloc (.cells #[j9 jV] 4)).heap.size=f.heap.size+1+1:=sM;have az:=eB ((f.alloc (.cells #[()] 110)).alloc (.cells #[j9 jV] 4)) 27 #[(0:Int),fF (fV f.heap.size) 1 1,fF (fV ⟨f.heap.size+1,0,fW⟩) 1 1];rw [bc] at az;have ab:=(cY ((f.alloc (.cells #[()] 110)).alloc (.cells #[j9 jV] 4))).alloc (.cells #[(0:Int),fF (fV f.heap.size) 1 1,fF (fV ⟨f.heap.size+1,0,fW⟩) 1 1] 27);replace ad:=ad.ext (ay.trans ab);replace L:=L.ext ab;have hm:=a8.trans (ay.trans ab);have I:=Y.ext hm;have aO:=aN.ext hm;have aR:=aQ.ext hm;have ar:=aq.ext hm;have k4:=I.cell 0;have z4:=I.frozen 0;have af:=Q.trans hm;clear a8 ay ab hm bb bc Y aN aQ aq;go_upto_region 5 with fail
 have bt:w.heap.size<f.heap.size:=oH Q.size;generalize f.heap.size=V at *;generalize ((f.alloc _).alloc _).alloc _=w6 at *;have g:=Frm.setCell w6 w.heap.size 0 (.pointer (fV ⟨V+1+1,0,fW⟩));have aL:Blk (w6.setCell w.heap.size (.pointer (fV ⟨V+1+1,0,fW⟩))) w.heap.size 173 #[kD (fV ⟨V+1+1,0,fW⟩)]:=by simpa using I.ae 0 (.pointer (fV ⟨V+1+1,0,fW⟩))
 have aP:=aO.frm g oM;have aS:=aR.frm g oM;have am:=ad.frm g oM;have an:=L.frm g oM;have ao:=az.frm g oM;have aB:=af.frm g (fun k hk e=>oM);have au:PtAt (w6.setCell w.heap.size (.pointer (fV ⟨V+1+1,0,fW⟩))) lo hi A k w2.heap.size g8 M ss:=by
  obtain⟨bs,hr,bz⟩:=ar.mov;exact⟨HS.out _ aB,bs,hr.frm g (fun k Z h2 e=>oM),bz.frm g (fun b cs hB e=>by
   subst e;exact absurd rfl (hB.ne I dM))⟩
 clear ad L az I aO aR ar g k4 z4;generalize w6.setCell w.heap.size (.pointer (fV ⟨V+1+1,0,fW⟩))=f at *;obtain⟨ga,B,m1,d1,B',G,E,aC,ax,ai,aX,aT⟩:∃ (ga:Nat) (B:Option Addr) (m1 d1:Nat) (B':Option Addr) (G E aC ax:Nat),Blk f w.heap.size 173 #[kD (fV ga)]/\Blk f ga 27 #[a.al,fF B m1 d1,fF B' G E]/\zK f aC ax B m1 B' G a:=by
  refine⟨V+1+1,fV ⟨V,0,fW⟩,1,1,fV ⟨V+1,0,fW⟩,1,1,V,V+2,aL,by rw [aw.out];exact ao,?_⟩;rw [aw.out];refine⟨⟨rfl,[fF fW 0 0],reads_blk am (Nat.le_refl _) oM,rfl,fun i row l hr hl=>?_⟩,rfl,reads_blk an oM oM⟩;cases i with
  |zero =>
   simp at hr;simp [free] at hl;subst hr;subst hl;exact⟨fW,0,rfl,Reads.nil⟩
  |succ i=>simp at hr
 have aU:=za (fun W (hW:Ext f W)=>ai.ext hW);have aV:=za (fun W (hW:Ext f W)=>aP.ext hW);have bo:=za (fun W (hW:Ext f W)=>aS.ext hW);have a0:=za (fun W (hW:Ext f W)=>au.ext hW);have H:=za (fun W (hW:Ext f W)=>aX.ext hW);have aJ:=za (fun W (hW:Ext f W)=>aT.ext hW);have bg:=aB;clear aB af Q am an ao aL aP aS au aX aT ai bt a6 aj be bx bd
 go_cut [10,11] (fun v10 v11 wx=>∃ (g10 g11:Nat) (UA RA:Option Addr) (uc rc:Nat),v10=.pointer (fV g10)/\v11=.pointer (fV g11)/\Ext f wx/\Blk wx g10 148 #[fF UA a.next.length uc]/\Blk wx g11 148 #[fF RA p.next.length rc]/\TbO wx UA uc a/\TbO wx RA rc p)
 case first =>
  have c4:∀ W,Ext f W->W.cell? w.heap.size=fV (.pointer (fV ga)):=fun W hW=>by rw [(aU.out W hW).cell];rfl
  have ca:∀ W,Ext f W->∀ j,W.cell? ⟨ga,j,fW⟩=#[Value.int iX a.al,fF B m1 d1,fF B' G E][j]?:=fun W hW=>(H.out W hW).cell;have c5:∀ W,Ext f W->∀ j,W.cell? ⟨w.heap.size+1,j,fW⟩=#[Value.int iX p.al,fF C m2 d2,fF C' m2' d2'][j]?:=fun W hW=>(aV.out W hW).cell;have hTA:=za (fun W (hW:Ext f W)=>zdu (d:=d1) (d':=E) (aJ.out W hW) Hv.out);have hTP:=za (fun W (hW:Ext f W)=>zdu (d:=d2) (d':=d2') (HP.out W (bg.trans hW)) Hp.out);have R:=cY f;refine uR (fun X=>Ext f X) [5,8,9] (zx.app [0,4] (zx.three 1 (zx.app [2] (zx.three 3 (zx.three 5 (zx.two 6 (zx.of [7,8,9]) 7 (zx.of [6,8,9])) 6 (zx.two 5 (zx.of [7,8,9]) 7 (zx.of [5,8,9])) 7 (zx.two 5 (zx.of [6,8,9]) 6 (zx.of [5,8,9]))) 6 (zx.two 3 (zx.two 5 (zx.of [7,8,9]) 7 (zx.of [5,8,9])) 7 (zx.of [3,5,8,9])) 7 (zx.two 3 (zx.two 5 (zx.of [6,8,9]) 6 (zx.of [5,8,9])) 6 (zx.of [3,5,8,9])))) 6 (zx.two 1 (zx.app [2] (zx.two 3 (zx.two 5 (zx.of [7,8,9]) 7 (zx.of [5,8,9])) 7 (zx.of [3,5,8,9]))) 7 (zx.of [1,2,3,5,8,9])) 7 (zx.two 1 (zx.app [2] (zx.two 3 (zx.two 5 (zx.of [6,8,9]) 6 (zx.of [5,8,9])) 6 (zx.of [3,5,8,9]))) 6 (zx.of [1,2,3,5,8,9])))) ?_;refine uQ ?_;have hx0:Ext f f.drew:=R.drew;generalize f.drew=o at *;refine uQ ?_;refine zaS (fun K hK=>?_) (fun K hK=>?_) (fun K hK=>?_)
  ·go_simp;refine hK.out _ _ hx0 ?_;refine pT ?_;refine uQ ?_;refine zaS (fun K hK=>?_) (fun K hK=>?_) (fun K hK=>?_)
   ·go_simp;refine (hTA.out _ hx0).mono ?_;rintro e w20 ⟨UA,uc,rfl,hA,hx1⟩;replace hx0:=hx0.trans hx1;clear hx1;refine hK.out _ _ hx0 ?_;refine pT ?_;refine zaS (fun K hK=>?_) (fun K hK=>?_) (fun K hK=>?_)
    ·go_simp;refine (hTP.out _ hx0).mono ?_;rintro e w21 ⟨RA,rc,rfl,hP,hx1⟩;replace hx0:=hx0.trans hx1;replace hA:=hA.ext hx1;clear hx1;refine hK.out _ _ hx0 ?_;refine pT ?_;refine zm (fun K hK=>?_) (fun K hK=>?_)
     ·go_simp;have hGh10:=hx0.size;have hx1:=(cY w21).alloc (.cells #[()] 148);replace hx0:=hx0.trans hx1;replace hA:=hA.ext hx1;replace hP:=hP.ext hx1;clear hx1;refine hK.out _ _ hx0 ?_;refine pT ?_;generalize U0:w21.alloc _=w22 at *;have h10:=dZ U0;clear U0;generalize w21.heap.size=g10 at *;exact yX06a5
     ·go_simp;have hGh11:=hx0.size;have hx1:=(cY w21).alloc (.cells #[()] 148);replace hx0:=hx0.trans hx1;replace hA:=hA.ext hx1;replace hP:=hP.ext hx1;clear hx1;refine hK.out _ _ hx0 ?_;refine pT ?_;generalize U0:w21.alloc _=w22 at *;have h11:=dZ U0;clear U0;generalize w21.heap.size=g11 at *;exact yX06a6
    ·go_simp;have hGh10:=hx0.size;have hx1:=(cY w20).alloc (.cells #[()] 148);replace hx0:=hx0.trans hx1;replace hA:=hA.ext hx1;clear hx1;refine hK.out _ _ hx0 ?_;refine pT ?_;generalize U0:w20.alloc _=w21 at *;have h10:=dZ U0;clear U0;generalize w20.heap.size=g10 at *;refine zm (fun K hK=>?_) (fun K hK=>?_)
     ·go_simp;refine (hTP.out _ hx0).mono ?_;rintro e w22 ⟨RA,rc,rfl,hP,hx1⟩;replace hx0:=hx0.trans hx1;replace h10:=h10.ext hx1;replace hA:=hA.ext hx1;clear hx1;refine hK.out _ _ hx0 ?_;refine pT ?_;exact yX06a5
     ·go_simp;have hne:=e7 h10.lt;have hGh11:=hx0.size;have hx1:=(cY w21).alloc (.cells #[()] 148);replace hx0:=hx0.trans hx1;replace h10:=h10.ext hx1;replace hA:=hA.ext hx1;clear hx1;refine hK.out _ _ hx0 ?_;refine pT ?_;generalize U0:w21.alloc _=w22 at *;have h11:=dZ U0;clear U0;generalize w21.heap.size=g11 at *;exact yX06a7
    ·go_simp;have hGh11:=hx0.size;have hx1:=(cY w20).alloc (.cells #[()] 148);replace hx0:=hx0.trans hx1;replace hA:=hA.ext hx1;clear hx1;refine hK.out _ _ hx0 ?_;refine pT ?_;generalize U0:w20.alloc _=w21 at *;have h11:=dZ U0;clear U0;generalize w20.heap.size=g11 at *;refine zm (fun K hK=>?_) (fun K hK=>?_)
     ·go_simp;refine (hTP.out _ hx0).mono ?_;rintro e w22 ⟨RA,rc,rfl,hP,hx1⟩;replace hx0:=hx0.trans hx1;replace h11:=h11.ext hx1;replace hA:=hA.ext hx1;clear hx1;refine hK.out _ _ hx0 ?_;refine pT ?_;exact yX06a6
     ·go_simp;have hne:=e7 h11.lt;have hGh10:=hx0.size;have hx1:=(cY w21).alloc (.cells #[()] 148);replace hx0:=hx0.trans hx1;replace h11:=h11.ext hx1;replace hA:=hA.ext hx1;clear hx1;refine hK.out _ _ hx0 ?_;refine pT ?_;generalize U0:w21.alloc _=w22 at *;have h10:=dZ U0;clear U0;generalize w21.heap.size=g10 at *;exact yX06a7
   ·go_simp;have hGh10:=hx0.size;have hx1:=(cY o).alloc (.cells #[()] 148);replace hx0:=hx0.trans hx1;clear hx1;refine hK.out _ _ hx0 ?_;refine pT ?_;generalize U0:o.alloc _=w20 at *;have h10:=dZ U0;clear U0;generalize o.heap.size=g10 at *;exact yX06a2
   ·go_simp;have hGh11:=hx0.size;have hx1:=(cY o).alloc (.cells #[()] 148);replace hx0:=hx0.trans hx1;clear hx1;refine hK.out _ _ hx0 ?_;refine pT ?_;generalize U0:o.alloc _=w20 at *;have h11:=dZ U0;clear U0;generalize o.heap.size=g11 at *;exact yX06a1
  ·go_simp;have hGh10:=hx0.size;have hx1:=(cY o).alloc (.cells #[()] 148);replace hx0:=hx0.trans hx1;clear hx1;refine hK.out _ _ hx0 ?_;refine pT ?_;generalize U0:o.alloc _=w20 at *;have h10:=dZ U0;clear U0;generalize o.heap.size=g10 at *;refine zm (fun K hK=>?_) (fun K hK=>?_)
   ·go_simp;refine hK.out _ _ hx0 ?_;refine pT ?_;refine uQ ?_;exact yX06a2
   ·go_simp;have hne:=e7 h10.lt;have hGh11:=hx0.size;have hx1:=(cY w20).alloc (.cells #[()] 148);replace hx0:=hx0.trans hx1;replace h10:=h10.ext hx1;clear hx1;refine hK.out _ _ hx0 ?_;refine pT ?_;generalize U0:w20.alloc _=w21 at *;have h11:=dZ U0;clear U0;generalize w20.heap.size=g11 at *;exact yX06a4
  ·go_simp;have hGh11:=hx0.size;have hx1:=(cY o).alloc (.cells #[()] 148);replace hx0:=hx0.trans hx1;clear hx1;refine hK.out _ _ hx0 ?_;refine pT ?_;generalize U0:o.alloc _=w20 at *;have h11:=dZ U0;clear U0;generalize o.heap.size=g11 at *;refine zm (fun K hK=>?_) (fun K hK=>?_)
   ·go_simp;refine hK.out _ _ hx0 ?_;refine pT ?_;refine uQ ?_;exact yX06a1
   ·go_simp;have hne:=e7 h11.lt;have hGh10:=hx0.size;have hx1:=(cY w20).alloc (.cells #[()] 148);replace hx0:=hx0.trans hx1;replace h11:=h11.ext hx1;clear hx1;refine hK.out _ _ hx0 ?_;refine pT ?_;generalize U0:w20.alloc _=w21 at *;have h10:=dZ U0;clear U0;generalize w20.heap.size=g10 at *;exact yX06a4
 case rest =>
  obtain⟨g10,g11,UA,RA,uc,rc,rfl,rfl,t,h10,h11,hA,hP⟩:=hcut;have aY:=za (fun W (hW:Ext wc W)=>h10.ext hW);have aZ:=za (fun W (hW:Ext wc W)=>h11.ext hW);have af:=bg.trans t;go_upto_region 6 with fail
  go_cut [12,13] (fun v12 v13 wx=>∃ (g12 g13:Nat),v12=.pointer (fV g12)/\v13=.pointer (fV g13)/\Ext wc wx/\Blk wx g12 3 #[.int iX (a.next.length:Nat)]/\Blk wx g13 3 #[.int iX (p.next.length:Nat)])
  case first =>
   have bX:∀ W,Ext wc W->W.cell? g10=fV (fF UA a.next.length uc):=fun W hW=>by rw [(aY.out W hW).cell];rfl
   have bY:∀ W,Ext wc W->W.cell? g11=fV (fF RA p.next.length rc):=fun W hW=>by rw [(aZ.out W hW).cell];rfl
   have R:=cY wc;clear h10 h11 hA hP;refine uR (fun X=>Ext wc X) [7] (zx.app [0,1,2,3] (zx.two 4 (zx.of [5,6,7]) 5 (zx.of [4,6,7]))) ?_;refine uQ ?_;have hx0:Ext wc wc.drew:=R.drew;generalize wc.drew=o at *;refine uQ ?_;refine zm (fun K hK=>?_) (fun K hK=>?_)
   ·go_simp;have hGh12:=hx0.size;have hx1:=(cY o).alloc (.cells #[(0:Int)] 3);replace hx0:=hx0.trans hx1;clear hx1;refine hK.out _ _ hx0 ?_;refine pT ?_;generalize U0:o.alloc _=w20 at *;have h12:=dZ U0;clear U0;generalize o.heap.size=g12 at *;refine ze fun K hK=>?_;go_simp;have hne:=e7 h12.lt;have hGh13:=hx0.size;have hx1:=(cY w20).alloc (.cells #[(0:Int)] 3);replace hx0:=hx0.trans hx1;replace h12:=h12.ext hx1;clear hx1;refine hK.out _ _ hx0 ?_;refine pT ?_;generalize U0:w20.alloc _=w21 at *;have h13:=dZ U0;clear U0;generalize w20.heap.size=g13 at *;exact yX06a8
   ·go_simp;have hGh13:=hx0.size;have hx1:=(cY o).alloc (.cells #[(0:Int)] 3);replace hx0:=hx0.trans hx1;clear hx1;refine hK.out _ _ hx0 ?_;refine pT ?_;generalize U0:o.alloc _=w20 at *;have h13:=dZ U0;clear U0;generalize o.heap.size=g13 at *;refine ze fun K hK=>?_;go_simp;have hne:=e7 h13.lt;have hGh12:=hx0.size;have hx1:=(cY w20).alloc (.cells #[(0:Int)] 3);replace hx0:=hx0.trans hx1;replace h13:=h13.ext hx1;clear hx1;refine hK.out _ _ hx0 ?_;refine pT ?_;generalize U0:w20.alloc _=w21 at *;have h12:=dZ U0;clear U0;generalize w20.heap.size=g12 at *;exact yX06a8
  case rest =>
   obtain⟨g12,g13,rfl,rfl,r,h12,h13⟩:=hcut;rename World=>w7
   have hw9:=af.trans r;have hC:BCaps w7 g8 g10 g11 g12 g13 A M UA RA k c dm uc rc ss a p:=by
    obtain⟨bG,bu,bD⟩:=hA.at_;obtain⟨bH,bw,bC⟩:=hP.at_;exact⟨bo.out _ (t.trans r),h10.ext r,h11.ext r,h12,h13,⟨_,_,_,_,a0.out _ (t.trans r)⟩,⟨bG,bu,bD.ext r⟩,⟨bH,bw,bC.ext r⟩⟩
   have av:GCaps w7 w.heap.size ga (w.heap.size+1) g12 g13 a p:=⟨aU.out _ (t.trans r),⟨B,m1,d1,B',G,E,aC,ax,H.out _ (t.trans r),aJ.out _ (t.trans r)⟩,⟨C,m2,d2,C',m2',d2',lo2,hi2,aV.out _ (t.trans r),HP.out _ hw9⟩,h12,h13⟩;obtain⟨N,hN⟩:∃ N:Nat,Hid (zH (zbn ss [a,p])=N):=⟨_,rfl⟩;obtain⟨⟨_,bK⟩,⟨_,bI⟩⟩:=And.intro (zk Hv.out).2.1 (zk Hp.out).2.1;obtain⟨⟨n1,_⟩,⟨bJ,_⟩⟩:=And.intro (zk Hv.out).2.1 (zk Hp.out).2.1;obtain⟨S,hS⟩:∃ S:Nat,Hid (zH (ss.map zee)=S):=⟨_,rfl⟩;have a1:1<=S/\S<=4096:=by
    rw [<- hS.out];refine⟨zel F.out,Nat.le_trans (zdy F.out) ?_⟩;have:=(HS.out w (cY _)).1
    calc 16 ^ ss.length<=16 ^ 3:=eE oM oM
     _=4096:=dM
   have aa:S*a.next.length*p.next.length=N:=by
    rw [<- hN.out,<- hS.out,show zbn ss [a,p]=ss.map zee++[zbD a,zbD p] from rfl,zca];simp [zH,zaB,zbD,Nat.mul_assoc]
   have a2:S*a.next.length<=4096*12:=Nat.mul_le_mul a1.2 bK;have bQ:N<=4096*12*12:=by rw [<- aa];exact Nat.mul_le_mul a2 bI
   have b3:1<=N:=by rw [<- aa];exact Nat.mul_pos (Nat.mul_pos a1.1 n1) bJ
   obtain⟨sn,bf⟩:∃ z:Nat,Hid (S*a.next.length=z):=⟨_,rfl⟩;rw [bf.out] at aa a2;have bT:(S:Int)*(a.next.length:Int)=(sn:Int):=by rw [<- bf.out];exact (fX S _).symm
   have b6:(sn:Int)*(p.next.length:Int)=(N:Int):=by rw [<- aa];exact (fX sn _).symm
   have Hd:=za (show ∀ x l,x<N->l<6->∀ y∈zcg ss a p x l,y<N from fun x l _ hl y hy=>by
    rw [zdr] at hy;rw [<- hN.out];refine zjh (fun mm hmm=>?_) hl y hy;rcases List.mem_append.1 hmm with Z|Z
    ·obtain⟨s,bB,rfl⟩:=List.mem_map.1 Z;exact zeI (F.out s bB)
    ·obtain⟨b,a4,rfl⟩:=List.mem_map.1 Z;simp at a4;rcases a4 with rfl|rfl
     ·exact zbE Hv.out
     ·exact zbE Hp.out)
   have bl:=za (show ∀ x l,(zcg ss a p x l).length<=4096 from fun x l=>by
    unfold zcg;rw [List.length_map];refine Nat.le_trans (nx_len F.out _ l) ?_;have:=(HS.out w (cY _)).1
    calc 16 ^ ss.length<=16 ^ 3:=eE oM oM
     _=4096:=by decide)
   have u:=za (zgO (U|||al));have key:=za (fun W (hW:Ext w7 W) A1 c1 AL q' cL (hA1:zay W A1 1 [0]) (hL:zay W AL q' (letters (U|||al) 6))=>zfX (w:=W) (N:=N) (kn:=173) (kg:=174) (m:=1) (c:=c1) (cL:=cL)
    (capn:=#[kD (fV g10),kD (fV g13),kD (fV g12),kD (fV g11),kD (fV g8)])
    (capg:=#[kD (fV w.heap.size),kD (fV g13),kD (fV g12),kD (fV ⟨w.heap.size+1,0,fW⟩)])
    (goal:=zbS a p) (d:=zcg ss a p) (D:=4096) hA1 (fun n hn=>by simp at hn;omega) oM hL u.out oM oM (fun args W=>kM) (fun args W=>kM)
    (fun W' hW' n hn=>brk_goal (av.ext (hW.trans hW')) Hv.out Hp.out oM)
    (fun n l hn hl=>⟨bl.out n l,Hd.out n l hn (u.out.1 l hl)⟩)
    (fun W' hW' n l hn hl base A m c xs hb0 hb hm zkr=>brk_next (hC.ext hW) (HT.out _ (hw9.trans hW)) hW' F.out a7 Hv.out Hp.out (by rw [hN.out];exact hn) (u.out.1 l hl) hb0 hb hm zkr))
   have hSZ:=za (show ∀ W,Ext w7 W->j8 j5 176 #[j4 #[fF A k c,fF M k dm]] W fun e w'=>e=j7 (.int iX (S:Nat))/\Ext W w' from fun W hW=>by
    have:=zjg (c:=c) (dm:=dm) (a0.out W ((t.trans r).trans hW)) F.out a7;rw [hS.out] at this;exact this)
   have hLT:=za (fun W=>zaf (U|||al) (by have:=eQ (n:=6) (x:=U) (y:=al) oM oM;unfold Sm;omega) W);have b9:bits .or iX (U:Int) (al:Int)=((U|||al:Nat):Int):=zcf tM tM;have c8:=fun W (hW:Ext w7 W)=>(hC.h8.ext hW).cell;have bZ:∀ W,Ext w7 W->W.cell? g12=fV (.int iX (a.next.length:Nat)):=fun W hW=>by rw [(hC.h12.ext hW).cell];rfl
   have b0:∀ W,Ext w7 W->W.cell? g13=fV (.int iX (p.next.length:Nat)):=fun W hW=>by rw [(hC.h13.ext hW).cell];rfl
   have c4:∀ W,Ext w7 W->W.cell? w.heap.size=fV (.pointer (fV ga)):=fun W hW=>by rw [(av.h4.ext hW).cell];rfl
   have ca:∀ W,Ext w7 W->∀ j,W.cell? ⟨ga,j,fW⟩=#[Value.int iX (al:Nat),fF B m1 d1,fF B' G E][j]?:=fun W hW=>by
    have:=(H.out W ((t.trans r).trans hW)).cell;rw [J.out] at this;exact this
   have cb:IntKind.i64.wrap (sn:Int)=(sn:Int):=zhh sn oM;have O:IntKind.i64.wrap (N:Int)=(N:Int):=zhh N oM;have R:=cY w7;clear hC av h10 h11 h12 h13 hA hP;go_upto_region 9 with fail
   refine uR (fun X=>Ext w7 X) [16] (zx.app [0,2,4,7,8,14,15] (zx.three 1 (zx.app [3,5] (zx.two 6 (zx.of [9,10,11,12,13,16,17,18,19,20]) 9 (zx.app [10,11,12] (zx.two 6 (zx.of [13,16,17,18,19,20]) 13 (zx.of [6,16,17,18,19,20]))))) 6 (zx.two 1 (zx.of [3,5,9,10,11,12,13,16,17,18,19,20]) 9 (zx.of [10,11,12,1,3,5,13,16,17,18,19,20])) 9 (zx.app [10,11,12] (zx.two 1 (zx.app [3,5] (zx.two 6 (zx.of [13,16,17,18,19,20]) 13 (zx.of [6,16,17,18,19,20]))) 6 (zx.of [1,3,5,13,16,17,18,19,20]))))) ?_;refine uQ ?_;have hx0:Ext w7 w7.drew:=R.drew;generalize w7.drew=o at *;refine uQ ?_;refine zaS (fun K hK=>?_) (fun K hK=>?_) (fun K hK=>?_)
   ·go_simp;refine (hSZ.out _ hx0).mono (mQ fun w20 hx1=>?_);replace hx0:=hx0.trans hx1;clear hx1;refine hK.out _ _ hx0 ?_;refine pT ?_;refine uQ ?_;refine zm (fun K hK=>?_) (fun K hK=>?_)
    ·go_simp;have hI:=zdw (x:=0) (eB w20 3 #[.int iX ((0:Nat):Int)]);have hx1:=(cY w20).alloc (.cells #[.int iX ((0:Nat):Int)] 3);replace hx0:=hx0.trans hx1;clear hx1;refine hK.out _ _ hx0 ?_;refine pT ?_;generalize w20.alloc _=w21 at *;generalize w20.heap.size=g1 at *;exact yX06a10
    ·go_simp;exact yX06a3
   ·go_simp;have hI:=zdw (x:=0) (eB o 3 #[.int iX ((0:Nat):Int)]);have hx1:=(cY o).alloc (.cells #[.int iX ((0:Nat):Int)] 3);replace hx0:=hx0.trans hx1;clear hx1;refine hK.out _ _ hx0 ?_;refine pT ?_;generalize o.alloc _=w20 at *;generalize o.heap.size=g1 at *;refine zm (fun K hK=>?_) (fun K hK=>?_)
    ·go_simp;refine (hSZ.out _ hx0).mono (mQ fun w21 hx1=>?_);replace hx0:=hx0.trans hx1;replace hI:=hI.ext hx1;clear hx1;refine hK.out _ _ hx0 ?_;refine pT ?_;refine uQ ?_;exact yX06a10
    ·go_simp;refine hK.out _ _ hx0 ?_;refine pT ?_;refine uQ ?_;exact yX06a9
   ·go_simp;refine hK.out _ _ hx0 ?_;refine pT ?_;refine uQ ?_;refine zm (fun K hK=>?_) (fun K hK=>?_)
    ·go_simp;refine (hSZ.out _ hx0).mono (mQ fun w20 hx1=>?_);replace hx0:=hx0.trans hx1;clear hx1;exact yX06a3
    ·go_simp;have hI:=zdw (x:=0) (eB o 3 #[.int iX ((0:Nat):Int)]);have hx1:=(cY o).alloc (.cells #[.int iX ((0:Nat):Int)] 3);replace hx0:=hx0.trans hx1;clear hx1;refine hK.out _ _ hx0 ?_;refine pT ?_;generalize o.alloc _=w20 at *;generalize o.heap.size=g1 at *;exact yX06a9
section
variable {lo hi n c:Nat} {A:Option Addr} {s:Sys} {lo1 hi1 m1 d1 m1' d1':Nat} {B B':Option Addr} {a:Aut} {lo2 hi2 m2 d2 m2' d2':Nat} {C C':Option Addr} {p:Aut} {w:World}
theorem zfD (h:zY w lo hi A n s)(ha:zK w lo1 hi1 B m1 B' m1' a)(hp:zK w lo2 hi2 C m2 C' m2' p)(hT:Tab w) :
  j8 j5 52 #[j4 #[s.al,s.st,fF A n c],j4 #[a.al,fF B m1 d1,fF B' m1' d1'],j4 #[p.al,fF C m2 d2,fF C' m2' d2']] w fun e w'=>e=j7 (.tuple #[.string (zbc s a p),j9 (zcK s a p)])/\Ext w w':=by
 have HT:=za (fun W (hW:Ext w W)=>hT.ext hW);have D:=za (fun W (hW:Ext w W)=>h.ext hW);have y:=za (fun W (hW:Ext w W)=>ha.ext hW);have z:=za (fun W (hW:Ext w W)=>hp.ext hW);have O:=za (fun W (hW:Ext w W)=>zbl (c:=c) (h.ext hW));have L:=za (fun W (hW:Ext w W)=>zae _ _ _ _ d1 _ _ d1' _ _ (ha.ext hW));have M:=za (fun W (hW:Ext w W)=>zae _ _ _ _ d2 _ _ d2' _ _ (hp.ext hW));clear h ha hp hT;have j:Ext w (((w.alloc (.cells #[s.al,s.st,fF A n c] 38)).alloc (.cells #[a.al,fF B m1 d1,fF B' m1' d1'] 27)).alloc (.cells #[p.al,fF C m2 d2,fF C' m2' d2'] 27)):=(((cY w).alloc _).alloc _).alloc _;obtain⟨t,u,v⟩:=zL (cY (((w.alloc (.cells #[s.al,s.st,fF A n c] 38)).alloc (.cells #[a.al,fF B m1 d1,fF B' m1' d1'] 27)).alloc (.cells #[p.al,fF C m2 d2,fF C' m2' d2'] 27)))
 by_cases hT:zcs s a p=jV
 ·have q:=za (show zbc s a p=vioW [s] a p/\zcK s a p=zkn [s] a p by unfold zbc zcK;rw [hT];exact⟨rfl,sM⟩);unfold zcs at hT;simp only [dI] at hT;obtain⟨I,X,Y⟩:=hT;have G:=za (show zF [s]=jV by simp [zF,I]);have V1:=za I;have Q:=za X;have R:=za Y;clear I X Y
  go_enter Tryz.func52,Tryz.ntmps52
  go_upto_region 1 with fail
  generalize ((w.alloc _).alloc _).alloc _=w1 at *;have S:=t.cell;go_upto_region 3 with (first
   |(go_at_call 65;with_reducible refine (O.out _ j).mono ?_;rw [V1.out];rintro e w2 ⟨rfl,hx2⟩;have b:=j.trans hx2;have T:=(u.ext hx2).cell)
   |(go_at_call 25;with_reducible refine (L.out _ b).mono ?_;rw [Q.out];rintro e w3 ⟨rfl,f⟩;have d:=b.trans f;have U:=(v.ext (hx2.trans f)).cell)
   |(go_at_call 25;with_reducible refine (M.out _ d).mono ?_;rw [R.out];rintro e J ⟨rfl,k⟩;have m:=d.trans k))
  have i:=hx2.trans (f.trans k);have k1:=(t.ext i).cell;have V:=eB J 38 #[s.al,s.st,fF A n c];have E:=(cY J).alloc (.cells #[s.al,s.st,fF A n c] 38);have k3:=(v.ext (i.trans E)).cell;have o:=u.ext (i.trans E);have g:=m.trans E;obtain⟨l1,x,r⟩:=sl_one V (D.out _ g);have HF:=za (zgZ (c:=1) (d2:=d2) (d2':=d2') r G.out (HT.out _ g) o (y.out _ g) Q.out (z.out _ g) R.out);clear S T U t u v r V o;go_wp2_with (go_at_call 84;refine HF.out.mono ?_;rintro e w6 hF;obtain⟨rfl,H⟩:=hF.first (zcx _))
  go_ret2;exact⟨by rw [q.out.1,q.out.2];rfl,g.trans H⟩
 ·have l:zcs s a p=j3:=by simpa using hT
  have q:=za (show zbc s a p=ByteArray.empty/\zcK s a p=j3 by unfold zbc zcK;rw [l];exact⟨rfl,rfl⟩);have F:=za (show (zl s&&(zj a&&zj p))=j3 from l);clear hT l;cases x:zl s<;>cases h2:zj a<;>cases h3:zj p
  all_goals first
   |(exfalso;have:=F.out;rw [x,h2,h3] at this;cases this;done)
   |(have Z:=za x
     have H2:=za h2;have H3:=za h3;clear x h2 h3
     go_enter Tryz.func52,Tryz.ntmps52
     go_upto_region 1 with fail
     generalize ((w.alloc _).alloc _).alloc _=w1 at *;have S:=t.cell;go_wp2_with (first
      |(go_at_call 65;with_reducible refine (O.out _ j).mono ?_;rw [Z.out];rintro e w2 ⟨rfl,hx2⟩;have b:=j.trans hx2;have T:=(u.ext hx2).cell)
      |(go_at_call 25;with_reducible refine (L.out _ b).mono ?_;rw [H2.out];rintro e w3 ⟨rfl,f⟩;have d:=b.trans f;have U:=(v.ext (hx2.trans f)).cell)
      |(go_at_call 25;with_reducible refine (M.out _ d).mono ?_;rw [H3.out];rintro e J ⟨rfl,k⟩;have m:=d.trans k))
     go_ret2;exact⟨by rw [q.out.1,q.out.2];rfl,by first|exact m|exact d|exact b⟩)
variable {k:Nat} {ss:List Sys}
theorem zbU (h:zhA w lo hi A k ss)(hp:zK w lo2 hi2 C m2 C' m2' p)(hT:Tab w) :
  j8 j5 30 #[fF A k c,j4 #[p.al,fF C m2 d2,fF C' m2' d2']] w fun e w'=>e=j7 (.tuple #[.string (zaq ss p),j9 (zbT ss p)])/\Ext w w':=by
 have j:=za (fun W (hW:Ext w W)=>h.ext hW);have m:=za (fun W (hW:Ext w W)=>hp.ext hW);have s:=za (fun W (hW:Ext w W)=>hT.ext hW);clear h hp hT;have a:Ext w (w.alloc (.cells #[p.al,fF C m2 d2,fF C' m2' d2'] 27)):=(cY w).alloc _;have n:=eB w 27 #[p.al,fF C m2 d2,fF C' m2' d2'];cases hA:zF ss
 ·have g:=za (show zaq ss p=ByteArray.empty/\zbT ss p=j3 by unfold zaq zbT zcI;rw [hA];exact⟨rfl,rfl⟩);have i:=za hA;clear hA
  go_enter Tryz.func30,Tryz.ntmps30
  go_upto_region 1 with fail
  generalize w.alloc _=q at *;go_wp2_with (go_at_call 78;refine (zbz (j.out _ a)).mono ?_;rw [i.out];rintro e r ⟨rfl,hx2⟩)
  go_ret2;exact⟨by rw [g.out.1,g.out.2];rfl,a.trans hx2⟩
 ·cases hV:zj p
  ·have g:=za (show zaq ss p=ByteArray.empty/\zbT ss p=j3 by unfold zaq zbT zcI;rw [hA,hV];exact⟨rfl,rfl⟩);have l:=za hV;have i:=za hA;clear hA hV
   go_enter Tryz.func30,Tryz.ntmps30
   go_upto_region 1 with fail
   generalize w.alloc _=q at *;go_wp2_with (first
    |(go_at_call 78;refine (zbz (j.out _ a)).mono ?_;rw [i.out];rintro e r ⟨rfl,hx2⟩;have d:=a.trans hx2;have t:=(n.ext hx2).cell)
    |(go_at_call 25;refine (zae _ _ _ _ _ _ _ _ _ _ (m.out _ d)).mono ?_;rw [l.out];rintro e u ⟨rfl,f⟩;have b:=d.trans f))
   go_ret2;exact⟨by rw [g.out.1,g.out.2];rfl,b⟩
  ·have g:=za (show zaq ss p=vioW ss free p/\zbT ss p=zkn ss free p by unfold zaq zbT zcI;rw [hA,hV];exact⟨rfl,sM⟩);have l:=za hV;have i:=za hA;clear hA hV
   go_enter Tryz.func30,Tryz.ntmps30
   go_upto_region 1 with fail
   generalize w.alloc _=q at *;go_wp2_with (first
    |(go_at_call 78;refine (zbz (j.out _ a)).mono ?_;rw [i.out];rintro e r ⟨rfl,hx2⟩;have d:=a.trans hx2;have t:=(n.ext hx2).cell)
    |(go_at_call 25;refine (zae _ _ _ _ _ _ _ _ _ _ (m.out _ d)).mono ?_;rw [l.out];rintro e u ⟨rfl,f⟩;have b:=d.trans f;have v:=(n.ext (hx2.trans f)).cell)
    |(go_at_call 84;refine (zff (c:=c) (d2:=d2) (d2':=d2') (j.out _ b) i.out (s.out _ b) (m.out _ b) l.out).mono ?_;rintro e x hF;obtain⟨rfl,o⟩:=hF.first (zcx _)))
   go_ret2;exact⟨by rw [g.out.1,g.out.2];rfl,b.trans o⟩
theorem impl_PartsKeep (h:zhA w lo hi A k ss)(hp:zK w lo2 hi2 C m2 C' m2' p)(hT:Tab w) :
  j8 j5 28 #[fF A k c,j4 #[p.al,fF C m2 d2,fF C' m2' d2']] w fun e w'=>e=j7 (.bool (zbt ss p))/\Ext w w':=by
 have q:=za (fun W (hW:Ext w W)=>zbU (c:=c) (d2:=d2) (d2':=d2') (h.ext hW) (hp.ext hW) (hT.ext hW));have o:=za (fun W (hW:Ext w W)=>h.ext hW);have n:=za (fun W (hW:Ext w W)=>hp.ext hW);have r:=za (show zbt ss p=(zF ss&&zj p&&!zbT ss p) from zhD ss p);clear h hp hT;generalize zbT ss p=s at *;generalize zaq ss p=v at *;have d:Ext w (w.alloc (.cells #[p.al,fF C m2 d2,fF C' m2' d2'] 27)):=(cY w).alloc _;have m:=eB w 27 #[p.al,fF C m2 d2,fF C' m2' d2'];cases hA:zF ss<;>cases hVv:zj p<;>cases s
 all_goals
  have l:=za (show zF ss=_ from hA);have b:=za hVv;clear hA hVv
  go_enter Tryz.func28,Tryz.ntmps28
  go_upto_region 1 with fail
  generalize w.alloc _=x at *;have t:=m.cell;go_wp2_with (first
   |(go_at_call 30;refine (q.out _ d).mono (mQ fun y hx2=>?_);have f:=d.trans hx2)
   |(go_at_call 78;refine (zbz (o.out _ f)).mono ?_;rw [l.out];rintro e z ⟨rfl,g⟩;have a:=f.trans g;have u:=(m.ext (hx2.trans g)).cell)
   |(go_at_call 25;refine (zae _ _ _ _ _ _ _ _ _ _ (n.out _ a)).mono ?_;rw [b.out];rintro e B ⟨rfl,j⟩;have i:=a.trans j))
  go_ret;exact⟨zo (by rw [r.out,l.out,b.out];rfl),by first|exact i|exact a⟩
end
def three (ss:List Sys) (p:Aut):Bool:=decide (ss.length=3)&&(zF ss&&zj p)
def chain1 (ss:List Sys) (p:Aut):Int:=
 if three ss p then match ss with
  |[x,y,z]=>bits .and iX (bits .or iX x.al p.al) (bits .or iX y.al z.al)
  |_ => -1
 else -1
def chain2 (ss:List Sys) (p:Aut):Int:=
 if three ss p then match ss with
  |[_,y,z]=>bits .and iX (bits .or iX y.al (chain1 ss p)) z.al
  |_ => -1
 else -1
theorem three_list (h:three ss p=jV):∃ x y z,ss=[x,y,z]:=by
 simp only [three,dI,decide_eq_true_eq] at h
 match ss,h.1 with
 |[x,y,z],_=>exact⟨x,y,z,rfl⟩
noncomputable def faultN (ss:List Sys) (p f g:Aut):Int:=
 if (three ss p&&(zj f&&zj g))=j3 then 1
 else if (decide (f.al=chain1 ss p)&&decide (g.al=chain2 ss p))=j3 then 2
 else match ss with
  |[x,y,z]=>if (zcS x f p&&zcS y g f)=j3 then 3 else if zbt [z] g=j3 then 4 else 0
  |_=>0
def iface (s:Sys) (p:Aut) (t:Sys):Int:=if (zl s&&(zj p&&zl t))=jV then (((s.al.toNat|||p.al.toNat)&&&t.al.toNat:Nat):Int) else -1
section
variable {lo hi n c:Nat} {A:Option Addr} {s:Sys} {lo1 hi1 m1 d1 m1' d1':Nat} {B B':Option Addr} {p:Aut} {lo2 hi2 k c2:Nat} {C:Option Addr} {t:Sys} {w:World}
theorem zew (h:zY w lo hi A n s)(hp:zK w lo1 hi1 B m1 B' m1' p)(ht:zY w lo2 hi2 C k t) :
  j8 j5 95 #[j4 #[s.al,s.st,fF A n c],j4 #[p.al,fF B m1 d1,fF B' m1' d1'],j4 #[t.al,t.st,fF C k c2]] w fun e w'=>e=j7 (.int iX (iface s p t))/\Ext w w':=by
 have E:=za (fun W (hW:Ext w W)=>zaz (c:=c) (h.ext hW));have D:=za (fun W (hW:Ext w W)=>zW _ _ _ _ d1 _ _ d1' _ _ (hp.ext hW));have F:=za (fun W (hW:Ext w W)=>zaz (c:=c2) (ht.ext hW));clear h hp ht;cases h1:zl s<;>cases h2:zj p<;>cases h3:zl t
 case true.true.true =>
  have u:=za h1;have v:=za h2;have z:=za h3;have L:=zac h1;have M:=(zk h2).1;have O:=zac h3;obtain⟨a,G⟩:∃ a:Nat,Hid (s.al=a):=⟨s.al.toNat,by unfold Hid;omega⟩;obtain⟨b,H⟩:∃ a:Nat,Hid (p.al=a):=⟨p.al.toNat,by unfold Hid;omega⟩;obtain⟨d,I⟩:∃ a:Nat,Hid (t.al=a):=⟨t.al.toNat,by unfold Hid;omega⟩;have J:=za (show iface s p t=((((a|||b)&&&d:Nat)):Int) by unfold iface;rw [h1,h2,h3,G.out,H.out,I.out];rfl);rw [G.out] at L;rw [H.out] at M;rw [I.out] at O;have Y:a<=63:=oM;have Z:b<=63:=oM;have d6:d<=63:=oM;have S:=eQ (n:=6) (x:=a) (y:=b) oM oM;have ho:=zcf (a:=a) (b:=b) tM tM;have hn:=zdq (a:=a|||b) (b:=d) tM tM;clear h1 h2 h3 L M O S;rw [G.out] at E ⊢;rw [H.out] at D ⊢;rw [I.out] at F ⊢
  go_enter Tryz.func95,Tryz.ntmps95
  go_upto_region 1 with fail
  generalize U0:((w.alloc _).alloc _).alloc _=T at *;obtain⟨l,o,q,r⟩:=jK U0;clear U0;have Q:=o.cell;go_wp2_with (first
   |(go_at_call 185;with_reducible refine (E.out _ l).mono ?_;rw [u.out];rintro e U ⟨rfl,hx2⟩;have g:=l.trans hx2;have c2:=(q.ext hx2).cell)
   |(go_at_call 79;with_reducible refine (D.out _ g).mono ?_;rw [v.out];rintro e V ⟨rfl,f⟩;have i:=g.trans f;have R:=(r.ext (hx2.trans f)).cell)
   |(go_at_call 185;with_reducible refine (F.out _ i).mono ?_;rw [z.out];rintro e X ⟨rfl,j⟩;have m:=i.trans j;have k1:=(o.ext (hx2.trans (f.trans j))).cell;have k2:=(q.ext (hx2.trans (f.trans j))).cell;have k3:=(r.ext (hx2.trans (f.trans j))).cell))
  go_ret;exact⟨zav (by rw [J.out]),m⟩
 all_goals
  have J:=za (show iface s p t = -1 by unfold iface;rw [h1,h2,h3];rfl);have u:=za h1;have v:=za h2;have z:=za h3;clear h1 h2 h3
  go_enter Tryz.func95,Tryz.ntmps95
  go_upto_region 1 with fail
  generalize U0:((w.alloc _).alloc _).alloc _=T at *;obtain⟨l,o,q,r⟩:=jK U0;clear U0;have Q:=o.cell;go_wp2_with (first
   |(go_at_call 185;with_reducible refine (E.out _ l).mono ?_;rw [u.out];rintro e U ⟨rfl,hx2⟩;have g:=l.trans hx2;have c2:=(q.ext hx2).cell)
   |(go_at_call 79;with_reducible refine (D.out _ g).mono ?_;rw [v.out];rintro e V ⟨rfl,f⟩;have i:=g.trans f;have R:=(r.ext (hx2.trans f)).cell)
   |(go_at_call 185;with_reducible refine (F.out _ i).mono ?_;rw [z.out];rintro e X ⟨rfl,j⟩;have m:=i.trans j))
  go_ret;exact⟨zav (by rw [J.out]),by first|exact m|exact i|exact g⟩
theorem zev (h:zY w lo hi A n s)(hp:zK w lo1 hi1 B m1 B' m1' p)(ht:zY w lo2 hi2 C k t) :
  j8 j5 83 #[j4 #[s.al,s.st,fF A n c],j4 #[p.al,fF B m1 d1,fF B' m1' d1'],j4 #[t.al,t.st,fF C k c2]] w fun e w'=>e=j7 (.int iX (iface s p t))/\Ext w w':=by
 have E:=za (fun W (hW:Ext w W)=>zbl (c:=c) (h.ext hW));have D:=za (fun W (hW:Ext w W)=>zae _ _ _ _ d1 _ _ d1' _ _ (hp.ext hW));have F:=za (fun W (hW:Ext w W)=>zbl (c:=c2) (ht.ext hW));clear h hp ht;cases h1:zl s<;>cases h2:zj p<;>cases h3:zl t
 case true.true.true =>
  have u:=za h1;have v:=za h2;have z:=za h3;have L:=zac h1;have M:=(zk h2).1;have O:=zac h3;obtain⟨a,G⟩:∃ a:Nat,Hid (s.al=a):=⟨s.al.toNat,by unfold Hid;omega⟩;obtain⟨b,H⟩:∃ a:Nat,Hid (p.al=a):=⟨p.al.toNat,by unfold Hid;omega⟩;obtain⟨d,I⟩:∃ a:Nat,Hid (t.al=a):=⟨t.al.toNat,by unfold Hid;omega⟩;have J:=za (show iface s p t=((((a|||b)&&&d:Nat)):Int) by unfold iface;rw [h1,h2,h3,G.out,H.out,I.out];rfl);rw [G.out] at L;rw [H.out] at M;rw [I.out] at O;have Y:a<=63:=oM;have Z:b<=63:=oM;have d6:d<=63:=oM;have S:=eQ (n:=6) (x:=a) (y:=b) oM oM;have ho:=zcf (a:=a) (b:=b) tM tM;have hn:=zdq (a:=a|||b) (b:=d) tM tM;clear h1 h2 h3 L M O S;rw [G.out] at E ⊢;rw [H.out] at D ⊢;rw [I.out] at F ⊢
  go_enter Tryz.func83,Tryz.ntmps83
  go_upto_region 1 with fail
  generalize U0:((w.alloc _).alloc _).alloc _=T at *;obtain⟨l,o,q,r⟩:=jK U0;clear U0;have Q:=o.cell;go_wp2_with (first
   |(go_at_call 65;with_reducible refine (E.out _ l).mono ?_;rw [u.out];rintro e U ⟨rfl,hx2⟩;have g:=l.trans hx2;have c2:=(q.ext hx2).cell)
   |(go_at_call 25;with_reducible refine (D.out _ g).mono ?_;rw [v.out];rintro e V ⟨rfl,f⟩;have i:=g.trans f;have R:=(r.ext (hx2.trans f)).cell)
   |(go_at_call 65;with_reducible refine (F.out _ i).mono ?_;rw [z.out];rintro e X ⟨rfl,j⟩;have m:=i.trans j;have k1:=(o.ext (hx2.trans (f.trans j))).cell;have k2:=(q.ext (hx2.trans (f.trans j))).cell;have k3:=(r.ext (hx2.trans (f.trans j))).cell))
  go_ret;exact⟨zav (by rw [J.out]),m⟩
 all_goals
  have J:=za (show iface s p t = -1 by unfold iface;rw [h1,h2,h3];rfl);have u:=za h1;have v:=za h2;have z:=za h3;clear h1 h2 h3
  go_enter Tryz.func83,Tryz.ntmps83
  go_upto_region 1 with fail
  generalize U0:((w.alloc _).alloc _).alloc _=T at *;obtain⟨l,o,q,r⟩:=jK U0;clear U0;have Q:=o.cell;go_wp2_with (first
   |(go_at_call 65;with_reducible refine (E.out _ l).mono ?_;rw [u.out];rintro e U ⟨rfl,hx2⟩;have g:=l.trans hx2;have c2:=(q.ext hx2).cell)
   |(go_at_call 25;with_reducible refine (D.out _ g).mono ?_;rw [v.out];rintro e V ⟨rfl,f⟩;have i:=g.trans f;have R:=(r.ext (hx2.trans f)).cell)
   |(go_at_call 65;with_reducible refine (F.out _ i).mono ?_;rw [z.out];rintro e X ⟨rfl,j⟩;have m:=i.trans j))
  go_ret;exact⟨zav (by rw [J.out]),by first|exact m|exact i|exact g⟩
end
noncomputable def faultA (s t:Sys) (p a:Aut):Int:=if iface s p t<0\/zj a=j3 then 1 else if a.al≠iface s p t then 2 else if zcS s a p=j3 then 3 else if zbt [t] a=j3 then 4 else 0
def wl (s:ByteArray):List Nat:=s.data.toList.map fun b=>b.toNat - 97
theorem zft (s:ByteArray):(wl s).length=s.size:=by simp [wl]
theorem zey (hk:k<s.size):(wl s)[k]?=fV (s[k].toNat - 97):=by
 unfold wl;rw [List.getElem?_map,zch s k hk];rfl
theorem zaV (h:zbh s=jV) (hk:k<s.size):97<=s[k].toNat/\s[k].toNat<=102:=by
 unfold zbh at h;simp only [dI,eK] at h;have:=h.2 s[k] (dD (zch s k hk));simp only [zdf,decide_eq_true_eq] at this;omega
theorem zbM (h:zbh s=jV):s.size<=50000:=by
 unfold zbh at h;simp only [dI,decide_eq_true_eq] at h;exact h.1
theorem zkq (h:zbh s=jV):∀ l∈wl s,l<6:=by
 intro l hl;obtain⟨k,hk⟩:=eA hl;have a:=(kB.1 hk).1;rw [zft] at a;rw [zey a] at hk;have:=zaV h a;have:=kA hk;omega
def alB (ls:List Nat):Nat:=ls.foldl (fun u l=>u|||2 ^ l) 0
theorem alB_snoc (ls:List Nat) (l:Nat):alB (ls++[l])=alB ls|||2 ^ l:=by simp [alB]
theorem zdE (ls:List Nat) (k:Nat):(alB ls).testBit k=jV↔k∈ls:=by
 have key:∀ (ls:List Nat) (u:Nat),(ls.foldl (fun u l=>u|||2 ^ l) u).testBit k=jV↔u.testBit k=jV\/k∈ls:=by
  intro ls
  induction ls with
  |nil=>intro u;simp
  |cons l r ih =>
   intro u;rw [List.foldl_cons,ih,Nat.testBit_or,Nat.testBit_two_pow,Bool.or_eq_true,decide_eq_true_eq,List.mem_cons];constructor
   ·rintro ((h|h)|h)
    ·exact Or.inl h
    ·exact Or.inr (Or.inl h.symm)
    ·exact Or.inr (Or.inr h)
   ·rintro (h|h|h)
    ·exact Or.inl (Or.inl h)
    ·exact Or.inl (Or.inr h.symm)
    ·exact Or.inr h
 have:=key ls 0;simpa [alB] using this
theorem alB_lt {ls:List Nat}(h:∀ l∈ls,l<6):alB ls<64:=Nat.lt_pow_two_of_testBit (n:=6) _ fun k hk=>by
 rw [eV]
 intro hb
 have:=h k ((zdE ls k).1 hb)
 omega
def inB (s:ByteArray) (a:Nat):Bool:=decide (s.size<=50000)&&zgl s a
theorem zbp (h:inB s a=jV):zbh s=jV:=by
 unfold inB at h;simp only [dI,decide_eq_true_eq] at h;unfold zbh;simp only [dI,decide_eq_true_eq];refine⟨h.1,?_⟩;rw [eK];intro b hb;have c:=h.2;unfold zgl at c;rw [eK] at c;have d:=c b hb;unfold hasB ltr at d;simp only [dI,decide_eq_true_eq] at d;unfold zdf;rw [decide_eq_true_eq];have f:=d.1
 split at f<;>omega
theorem zeE :inB s a=jV↔zbh s=jV/\alB (wl s)&&&a=alB (wl s):=by
 constructor
 ·intro h;have f:=zbp h;refine⟨f,Nat.eq_of_testBit_eq fun k=>?_⟩;rw [fQ];cases hk:(alB (wl s)).testBit k
  ·rfl
  ·rw [Bool.true_and];have g:=(zdE _ k).1 hk;obtain⟨i,d⟩:=eA g;have c:=(kB.1 d).1;rw [zft] at c;rw [zey c] at d;have j:=zaV f c;have e:=kA d;unfold inB zgl at h;simp only [dI,eK] at h;have:=h.2 s[i] (dD (zch s i c));unfold hasB ltr at this;rw [if_neg oM] at this;simp only [dI] at this;rw [<- e,<- this.2]
   congr 1
   omega
 ·rintro ⟨f,h⟩;unfold inB;simp only [dI,decide_eq_true_eq];refine⟨zbM f,?_⟩;unfold zgl;rw [eK];intro b j;obtain⟨i,d⟩:=eA j;have c:i<s.size:=by have:=(kB.1 d).1;simpa using this
  rw [zch s i c] at d;obtain rfl:=kA d;have l:=zaV f c;unfold hasB ltr;rw [if_neg oM];have g:(alB (wl s)).testBit (s[i].toNat - 97)=jV:=(zdE _ _).2 (dD (zey c));rw [<- h,fQ,dI] at g;simp only [dI,decide_eq_true_eq];refine⟨oM,?_⟩;rw [show ((s[i].toNat:Int) - 97).toNat=s[i].toNat - 97 by omega];exact g.2
theorem zeJ (hs:s.size<=9223372036854775807) :
  j8 j5 222 #[s] w fun e w'=>e=j7 (.tuple #[.int iX (if zbh s=jV then alB (wl s) else 0:Nat),j9 (zbh s)])/\w=w':=by
 cases hw:zbh s
 ·have f:=za hw;clear hw
  go_enter Tryz.func222,Tryz.ntmps222
  go_wp2_with (go_at_call 141;refine (zcE s _ hs).mono ?_;rw [f.out];rintro e w' ⟨rfl,rfl⟩)
  go_ret2;exact⟨rfl,rfl⟩
 ·have q:=zbM hw;have p:=za (fun k hk=>zaV hw (k:=k) hk);have t:=za (zkq hw);have f:=za hw;clear hw
  go_enter Tryz.func222,Tryz.ntmps222
  go_wp2_with (go_at_call 141;refine (zcE s _ hs).mono ?_;rw [f.out];rintro e w' ⟨rfl,rfl⟩)
  go_loop [4,5] (fun v i=>∃ k u:Nat,k<=s.size/\i=.int iX k/\v=.int iX u/\u<64/\Hid (u=alB ((wl s).take k))) (fun _ i=>s.size - (intOf i).toNat)
  case atStart=>exact⟨0,0,Nat.zero_le _,rfl,rfl,oM,rfl⟩
  case round =>
   obtain⟨k,u,hk,rfl,rfl,r,d⟩:=hrel
   by_cases hlt:k<s.size
   ·have g:=p.out k hlt;obtain⟨l,h⟩:∃ l:Nat,Hid ((s[k].toNat:Int) - 97=l):=⟨s[k].toNat - 97,by unfold Hid;omega⟩;have j:l<6:=oH h.out;have m:=za (show alB ((wl s).take (k+1))=u|||2 ^ l by
     rw [List.take_add_one,zey hlt,Option.toList_some,alB_snoc,<- d.out]
     congr 2
     have:=h.out;omega)
    have c:=za (show bits .or iX (u:Nat) ((2:Int) ^ l)=((u|||2 ^ l:Nat):Int) by
     have:=zcf (a:=u) tM (Sm.bit (n:=l) oM);rw [show (((2:Nat) ^ l:Nat):Int)=(2:Int) ^ l by simp] at this;exact this)
    have b:u|||2 ^ l<64:=eQ (n:=6) r (Nat.pow_lt_pow_right oM j)
    have x:=c.out;clear g;go_wp2_with (first
     |(go_at_call 144;refine (zbJ s k hlt _).mono ?_;rw [h.out];rintro e w' ⟨rfl,rfl⟩)
     |(go_at_call 270;refine (zgG l oM _).mono ?_;rintro e w' ⟨rfl,rfl⟩))
    go_round
    case rel=>exact⟨k+1,u|||2 ^ l,oM,gM,by first|rfl|rw [c.out],b,m.symm⟩
    case measure=>exact uM
   ·obtain rfl:k=s.size:=oM;have o:=za (show u=alB (wl s) by rw [d.out,dK (by rw [zft];exact Nat.le_refl _)]);go_wp2;go_ret2;exact⟨by rw [o.out];rfl,rfl⟩
theorem zbb (hs:s.size<=9223372036854775807)(ha:a<=63) :
  j8 j5 146 #[s,a] w fun e w'=>e=j7 (.bool (inB s a))/\w=w':=by
 have d:=za (show (decide ((0:Int)<=a/\(a:Int)<=63))=jV by simp;omega);cases hw:zbh s
 ·have g:=za (show inB s a=j3 by
   rw [eV];intro h;rw [zbp h] at hw;cases hw)
  have c:=za hw;clear hw
  go_enter Tryz.func146,Tryz.ntmps146
  go_wp2_with (go_at_call 222;refine (zeJ hs).mono ?_;rw [c.out];rintro e w' ⟨rfl,rfl⟩)
  go_ret;exact⟨zo (by rw [g.out]),rfl⟩
 ·obtain⟨u,i⟩:∃ u,Hid (alB (wl s)=u):=⟨_,rfl⟩;have j:u<64:=by rw [<- i.out];exact alB_lt (zkq hw)
  have f:=za (zdq (a:=u) (b:=a) tM tM);have k:=f.out;have g:=za (show inB s a=(((u&&&a:Nat):Int)==(u:Int)) by
   rw [Bool.eq_iff_iff,zeE,i.out,beq_iff_eq];constructor
   ·rintro ⟨_,h⟩;rw [h]
   ·intro h;exact⟨hw,oM⟩)
  have c:=za hw;clear hw
  go_enter Tryz.func146,Tryz.ntmps146
  go_wp2_with (first
   |(go_at_call 222;refine (zeJ hs).mono ?_;rw [c.out,if_pos rfl,i.out];rintro e w' ⟨rfl,rfl⟩)
   |(go_at_call 142;refine (zZ _ _).mono ?_;rw [d.out];rintro e w' ⟨rfl,rfl⟩))
  go_ret;exact⟨zo (by rw [g.out]),rfl⟩
end Go.Proofs.YtckbjnndaaoddaaGreatDoor
