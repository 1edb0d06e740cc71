/- impl.firstBr -/
import Derived.Test.YtmjaepibdpfblaaGreatDoorK07
import Derived.Test.YtmjaepibdpfblaaGreatDoorK06
import Derived.Test.YtmjaepibdpfblaaGreatDoorK05
import Derived.Test.YtmjaepibdpfblaaGreatDoorK03
import Derived.Test.YtmjaepibdpfblaaGreatDoorK01
import Derived.Test.YtmjaepibdpfblaaGreatDoorK04
namespace Go.Proofs.YtmjaepibdpfblaaGreatDoor
open Go Go.RowKit
set_option maxHeartbeats 8000000
set_option maxRecDepth 100000
theorem yK08d1 {P:Prop}(h:P:=by
 have Kh10:=h10.cell 0
 have Zh10:=h10.frozen 0
 (refine zb rfl rfl rfl rfl (fun K hK=>?_))
 go_simp
 have hx2:=hx0.frm (Frm.setCell w23 g10 0 (.slice UA a.next.length uc)) (fun k hk e=>by have:=hGh10;omega)
 have hA2:=hA.set h10 (by decide) (.slice UA a.next.length uc)
 have hP2:=hP.set h10 (by decide) (.slice UA a.next.length uc)
 have h102:Blk (w23.setCell ⟨g10,0,none⟩ (.slice UA a.next.length uc)) g10 177 #[.slice UA a.next.length uc]:=by simpa using h10.set_ 0 (.slice UA a.next.length uc)
 have h112:=h11.far (p:=⟨g10,0,none⟩) (by first|exact hne|exact hne.symm) (.slice UA a.next.length uc)
 refine hK.out _ _ ?_
 refine pT ?_
 clear hA hP h10 h11 Kh10 Zh10 hx0
 generalize w23.setCell ⟨g10,0,none⟩ (.slice UA a.next.length uc)=w24 at *
 have hA:=hA2;have hP:=hP2;have h10:=h102;have h11:=h112;have hx0:=hx2
 clear hA2 hP2 h102 h112 hx2
 have Kh11:=h11.cell 0
 have Zh11:=h11.frozen 0
 (refine zb rfl rfl rfl rfl (fun K hK=>?_))
 go_simp
 have hx2:=hx0.frm (Frm.setCell w24 g11 0 (.slice RA p.next.length rc)) (fun k hk e=>by have:=hGh11;omega)
 have hA2:=hA.set h11 (by decide) (.slice RA p.next.length rc)
 have hP2:=hP.set h11 (by decide) (.slice RA p.next.length rc)
 have h112:Blk (w24.setCell ⟨g11,0,none⟩ (.slice RA p.next.length rc)) g11 177 #[.slice RA p.next.length rc]:=by simpa using h11.set_ 0 (.slice RA p.next.length rc)
 have h102:=h10.far (p:=⟨g11,0,none⟩) (by first|exact hne|exact hne.symm) (.slice RA p.next.length rc)
 refine hK.out _ _ ?_
 refine pT ?_
 clear hA hP h10 h11 Kh11 Zh11 hx0
 generalize w24.setCell ⟨g11,0,none⟩ (.slice RA p.next.length rc)=w25 at *
 have hA:=hA2;have hP:=hP2;have h10:=h102;have h11:=h112;have hx0:=hx2
 clear hA2 hP2 h102 h112 hx2
 refine ze ?_
 go_wp2_with fail
 go_meet
 exact⟨g10,g11,UA,RA,uc,rc,rfl,rfl,hx0,h10,h11,hA,hP⟩
 ):P:=h
theorem yK08c1 {P:Prop}(h:P:=by
 (refine zb rfl rfl rfl rfl (fun K hK=>?_))
 go_simp
 refine (hTP.out _ hx0).mono ?_
 rintro e w23 ⟨RA,rc,rfl,hP,hx1⟩
 replace hx0:=hx0.trans hx1
 replace h10:=h10.ext hx1
 replace h11:=h11.ext hx1
 replace hA:=hA.ext hx1
 clear hx1
 refine hK.out _ _ ?_
 refine pT ?_
 exact yK08d1
 ):P:=h
theorem yK08b1 {P:Prop}(h:P:=by
 (refine zd rfl rfl rfl (fun K hK=>?_);go_simp)
 refine (hTA.out _ hx0).mono ?_
 rintro e w22 ⟨UA,uc,rfl,hA,hx1⟩
 replace hx0:=hx0.trans hx1
 replace h10:=h10.ext hx1
 replace h11:=h11.ext hx1
 clear hx1
 refine hK.out _ _ hx0 ?_
 refine pT ?_
 exact yK08c1
 ):P:=h
theorem yK08c2 {P:Prop}(h:P:=by
 exact yK08d1
 ):P:=h
theorem yK08b2 {P:Prop}(h:P:=by
 (refine zd rfl rfl rfl (fun K hK=>?_);go_simp)
 have hne:=Nat.ne_of_lt h11.lt
 have hGh10:=hx0.size
 have hx1:=(Ext.refl w22).alloc (.cells #[.slice none 0 0] 177)
 replace hx0:=hx0.trans hx1
 replace h11:=h11.ext hx1
 replace hA:=hA.ext hx1
 replace hP:=hP.ext hx1
 clear hx1
 have h10:=Blk.new w22 177 #[.slice none 0 0]
 refine hK.out _ _ hx0 ?_
 refine pT ?_
 generalize w22.alloc (.cells #[.slice none 0 0] 177)=w23 at *
 generalize w22.heap.size=g10 at *
 exact yK08c2
 ):P:=h
theorem yK08b4 {P:Prop}(h:P:=by
 exact yK08c1
 ):P:=h
def zcJ (a p:Aut) (x:Nat):Bool:=zbr a (x / p.next.length % a.next.length)&&!zbr p (x % p.next.length)
theorem yK08a1 {P:Prop}(h:P:=by
 refine zm rfl rfl rfl rfl (fun K hK=>?_) (fun K hK=>?_)
 ·go_simp
  refine (hTA.out _ hx0).mono ?_
  rintro e w21 ⟨UA,uc,rfl,hA,hx1⟩
  replace hx0:=hx0.trans hx1
  replace h11:=h11.ext hx1
  clear hx1
  refine hK.out _ _ hx0 ?_
  refine pT ?_
  refine zm rfl rfl rfl rfl (fun K hK=>?_) (fun K hK=>?_)
  ·go_simp
   refine (hTP.out _ hx0).mono ?_
   rintro e w22 ⟨RA,rc,rfl,hP,hx1⟩
   replace hx0:=hx0.trans hx1
   replace h11:=h11.ext hx1
   replace hA:=hA.ext hx1
   clear hx1
   refine hK.out _ _ hx0 ?_
   refine pT ?_
   exact yK08b2
  ·go_simp
   have hne:=Nat.ne_of_lt h11.lt
   have hGh10:=hx0.size
   have hx1:=(Ext.refl w21).alloc (.cells #[.slice none 0 0] 177)
   replace hx0:=hx0.trans hx1
   replace h11:=h11.ext hx1
   replace hA:=hA.ext hx1
   clear hx1
   have h10:=Blk.new w21 177 #[.slice none 0 0]
   refine hK.out _ _ hx0 ?_
   refine pT ?_
   generalize w21.alloc (.cells #[.slice none 0 0] 177)=w22 at *
   generalize w21.heap.size=g10 at *
   exact yK08b4
 ·go_simp
  have hne:=Nat.ne_of_lt h11.lt
  have hGh10:=hx0.size
  have hx1:=(Ext.refl w20).alloc (.cells #[.slice none 0 0] 177)
  replace hx0:=hx0.trans hx1
  replace h11:=h11.ext hx1
  clear hx1
  have h10:=Blk.new w20 177 #[.slice none 0 0]
  refine hK.out _ _ hx0 ?_
  refine pT ?_
  generalize w20.alloc (.cells #[.slice none 0 0] 177)=w21 at *
  generalize w20.heap.size=g10 at *
  exact yK08b1
 ):P:=h
theorem yK08b3 {P:Prop}(h:P:=by
 (refine zd rfl rfl rfl (fun K hK=>?_);go_simp)
 have hne:=Nat.ne_of_lt h10.lt
 have hGh11:=hx0.size
 have hx1:=(Ext.refl w22).alloc (.cells #[.slice none 0 0] 177)
 replace hx0:=hx0.trans hx1
 replace h10:=h10.ext hx1
 replace hA:=hA.ext hx1
 replace hP:=hP.ext hx1
 clear hx1
 have h11:=Blk.new w22 177 #[.slice none 0 0]
 refine hK.out _ _ hx0 ?_
 refine pT ?_
 generalize w22.alloc (.cells #[.slice none 0 0] 177)=w23 at *
 generalize w22.heap.size=g11 at *
 exact yK08c2
 ):P:=h
theorem yK08a2 {P:Prop}(h:P:=by
 refine zm rfl rfl rfl rfl (fun K hK=>?_) (fun K hK=>?_)
 ·go_simp
  refine (hTA.out _ hx0).mono ?_
  rintro e w21 ⟨UA,uc,rfl,hA,hx1⟩
  replace hx0:=hx0.trans hx1
  replace h10:=h10.ext hx1
  clear hx1
  refine hK.out _ _ hx0 ?_
  refine pT ?_
  refine zm rfl rfl rfl rfl (fun K hK=>?_) (fun K hK=>?_)
  ·go_simp
   refine (hTP.out _ hx0).mono ?_
   rintro e w22 ⟨RA,rc,rfl,hP,hx1⟩
   replace hx0:=hx0.trans hx1
   replace h10:=h10.ext hx1
   replace hA:=hA.ext hx1
   clear hx1
   refine hK.out _ _ hx0 ?_
   refine pT ?_
   exact yK08b3
  ·go_simp
   have hne:=Nat.ne_of_lt h10.lt
   have hGh11:=hx0.size
   have hx1:=(Ext.refl w21).alloc (.cells #[.slice none 0 0] 177)
   replace hx0:=hx0.trans hx1
   replace h10:=h10.ext hx1
   replace hA:=hA.ext hx1
   clear hx1
   have h11:=Blk.new w21 177 #[.slice none 0 0]
   refine hK.out _ _ hx0 ?_
   refine pT ?_
   generalize w21.alloc (.cells #[.slice none 0 0] 177)=w22 at *
   generalize w21.heap.size=g11 at *
   exact yK08b4
 ·go_simp
  have hne:=Nat.ne_of_lt h10.lt
  have hGh11:=hx0.size
  have hx1:=(Ext.refl w20).alloc (.cells #[.slice none 0 0] 177)
  replace hx0:=hx0.trans hx1
  replace h10:=h10.ext hx1
  clear hx1
  have h11:=Blk.new w20 177 #[.slice none 0 0]
  refine hK.out _ _ hx0 ?_
  refine pT ?_
  generalize w20.alloc (.cells #[.slice none 0 0] 177)=w21 at *
  generalize w20.heap.size=g11 at *
  exact yK08b1
 ):P:=h
theorem yK08c3 {P:Prop}(h:P:=by
 (refine zb rfl rfl rfl rfl (fun K hK=>?_))
 go_simp
 refine (key.out _ hx0 _ _ _ _ _ hI hIL).mono ?_
 rintro e w23 ⟨hx1,hcase⟩
 have hx2:=hw9.trans (hx0.trans hx1)
 rcases hcase with ⟨v,rfl,hF⟩|⟨rfl,hF⟩
 ·have hres:=za (show zM w (zbQ ss a p) [0] (zcJ a p) (letters (U|||al) 6) _ w23 from ⟨hx2,Or.inl ⟨v,rfl,hF⟩⟩)
  refine hK.out _ _ ?_
  refine pT ?_
  refine uQ ?_
  refine ze ?_
  go_wp2_with fail
  go_ret2
  exact hres.out
 ·have hres:=za (show zM w (zbQ ss a p) [0] (zcJ a p) (letters (U|||al) 6) _ w23 from ⟨hx2,Or.inr ⟨rfl,hF⟩⟩)
  refine hK.out _ _ ?_
  refine pT ?_
  refine uQ ?_
  refine ze ?_
  go_wp2_with fail
  go_ret2
  exact hres.out
 ):P:=h
theorem yK08b6 {P:Prop}(h:P:=by
 exact yK08c3
 ):P:=h
theorem yK08a3 {P:Prop}(h:P:=by
 refine hK.out _ _ hx0 ?_
 refine pT ?_
 refine uQ ?_
 refine zm rfl rfl rfl rfl (fun K hK=>?_) (fun K hK=>?_)
 ·go_simp
  have hI:=zck (x:=0) (Blk.new w20 3 #[.int .i64 ((0:Nat):Int)])
  have hx1:=(Ext.refl w20).alloc (.cells #[.int .i64 ((0:Nat):Int)] 3)
  replace hx0:=hx0.trans hx1
  clear hx1
  refine hK.out _ _ hx0 ?_
  refine pT ?_
  generalize w20.alloc (.cells #[.int .i64 ((0:Nat):Int)] 3)=w21 at *
  generalize w20.heap.size=g1 at *
  (refine zd rfl rfl rfl (fun K hK=>?_);go_simp)
  refine (hLT.out w21).mono ?_
  rintro e w22 ⟨AL,cL,rfl,hownL,hx1⟩
  have hIL:=zal.own hownL
  clear hownL
  replace hx0:=hx0.trans hx1
  replace hI:=hI.ext hx1
  clear hx1
  refine hK.out _ _ hx0 ?_
  refine pT ?_
  exact yK08b6
 ·go_simp
  refine (hLT.out w20).mono ?_
  rintro e w21 ⟨AL,cL,rfl,hownL,hx1⟩
  have hIL:=zal.own hownL
  clear hownL
  replace hx0:=hx0.trans hx1
  clear hx1
  refine hK.out _ _ hx0 ?_
  refine pT ?_
  (refine zd rfl rfl rfl (fun K hK=>?_);go_simp)
  have hI:=zck (x:=0) (Blk.new w21 3 #[.int .i64 ((0:Nat):Int)])
  have hx1:=(Ext.refl w21).alloc (.cells #[.int .i64 ((0:Nat):Int)] 3)
  replace hx0:=hx0.trans hx1
  replace hIL:=hIL.ext hx1
  clear hx1
  refine hK.out _ _ hx0 ?_
  refine pT ?_
  generalize w21.alloc (.cells #[.int .i64 ((0:Nat):Int)] 3)=w22 at *
  generalize w21.heap.size=g1 at *
  exact yK08b6
 ):P:=h
theorem yK08a4 {P:Prop}(h:P:=by
 (refine zd rfl rfl rfl (fun K hK=>?_);go_simp)
 refine hK.out _ _ hx0 ?_
 refine pT ?_
 refine uQ ?_
 exact yK08b1
 ):P:=h
theorem yK08a5 {P:Prop}(h:P:=by
 exact yK08b2
 ):P:=h
theorem yK08a6 {P:Prop}(h:P:=by
 exact yK08b3
 ):P:=h
theorem yK08a7 {P:Prop}(h:P:=by
 exact yK08b4
 ):P:=h
theorem yK08a8 {P:Prop}(h:P:=by
 have Kh12:=h12.cell 0
 have Zh12:=h12.frozen 0
 (refine zd rfl rfl rfl (fun K hK=>?_);go_simp)
 have hx2:=hx0.frm (Frm.setCell w21 g12 0 (.int .i64 (a.next.length:Nat))) (fun k hk e=>by have:=hGh12;omega)
 have h122:Blk (w21.setCell ⟨g12,0,none⟩ (.int .i64 (a.next.length:Nat))) g12 3 #[.int .i64 (a.next.length:Nat)]:=by simpa using h12.set_ 0 (.int .i64 (a.next.length:Nat))
 have h132:=h13.far (p:=⟨g12,0,none⟩) (by first|exact hne|exact hne.symm) (.int .i64 (a.next.length:Nat))
 refine hK.out _ _ hx2 ?_
 refine pT ?_
 clear h12 h13 Kh12 Zh12 hx0
 generalize w21.setCell ⟨g12,0,none⟩ (.int .i64 (a.next.length:Nat))=w22 at *
 have h12:=h122;have h13:=h132;have hx0:=hx2
 clear h122 h132 hx2
 have Kh13:=h13.cell 0
 have Zh13:=h13.frozen 0
 (refine zb rfl rfl rfl rfl (fun K hK=>?_))
 go_simp
 have hx2:=hx0.frm (Frm.setCell w22 g13 0 (.int .i64 (p.next.length:Nat))) (fun k hk e=>by have:=hGh13;omega)
 have h132:Blk (w22.setCell ⟨g13,0,none⟩ (.int .i64 (p.next.length:Nat))) g13 3 #[.int .i64 (p.next.length:Nat)]:=by simpa using h13.set_ 0 (.int .i64 (p.next.length:Nat))
 have h122:=h12.far (p:=⟨g13,0,none⟩) (by first|exact hne|exact hne.symm) (.int .i64 (p.next.length:Nat))
 refine hK.out _ _ ?_
 refine pT ?_
 clear h12 h13 Kh13 Zh13 hx0
 generalize w22.setCell ⟨g13,0,none⟩ (.int .i64 (p.next.length:Nat))=w23 at *
 have h12:=h122;have h13:=h132;have hx0:=hx2
 clear h122 h132 hx2
 refine ze ?_
 go_wp2_with fail
 go_meet
 exact⟨g12,g13,rfl,rfl,hx0,h12,h13⟩
 ):P:=h
theorem yK08b5 {P:Prop}(h:P:=by
 refine hK.out _ _ hx0 ?_
 refine pT ?_
 refine uQ ?_
 (refine zd rfl rfl rfl (fun K hK=>?_);go_simp)
 refine (hLT.out w21).mono ?_
 rintro e w22 ⟨AL,cL,rfl,hownL,hx1⟩
 have hIL:=zal.own hownL
 clear hownL
 replace hx0:=hx0.trans hx1
 replace hI:=hI.ext hx1
 clear hx1
 refine hK.out _ _ hx0 ?_
 refine pT ?_
 exact yK08c3
 ):P:=h
theorem yK08a9 {P:Prop}(h:P:=by
 (refine zd rfl rfl rfl (fun K hK=>?_);go_simp)
 refine (hSZ.out _ hx0).mono ?_
 rintro e w21 ⟨rfl,hx1⟩
 replace hx0:=hx0.trans hx1
 replace hI:=hI.ext hx1
 clear hx1
 exact yK08b5
 ):P:=h
theorem yK08a10 {P:Prop}(h:P:=by
 (refine zd rfl rfl rfl (fun K hK=>?_);go_simp)
 exact yK08b5
 ):P:=h
theorem zfO {lo hi k c ga:Nat} {A:Option Addr} {ss:List Sys} {B:Option Addr} {m1 d1:Nat} {B':Option Addr} {m1' d1' lo1 hi1:Nat} {C:Option Addr} {m2 d2:Nat} {C':Option Addr} {m2' d2' lo2 hi2:Nat} {a p:Aut} {w:World}
  (h:zey w lo hi A k ss) (hap:zE ss=true) (hT:Tab w) (hga:Blk w ga 31 #[.int .i64 a.al,.slice B m1 d1,.slice B' m1' d1']) (hA0:zG w lo1 hi1 B m1 B' m1' a) (hv:zi a=true) (hP0:zG w lo2 hi2 C m2 C' m2' p) (hp:zi p=true) :
  Calls Tryz.prog 119 #[.slice A k c,.pointer (some ⟨ga,0,none⟩),.agg #[.int .i64 p.al,.slice C m2 d2,.slice C' m2' d2']] w (zM w (zbQ ss a p) [0] (zcJ a p) (letters (zS ss|||a.al.toNat) 6)):=by
 have hsv:∀ s∈ss,zl s=true:=by
  unfold zE at hap
  simp only [Bool.and_eq_true,List.all_eq_true] at hap
  exact hap.2.2
 have hk3:k≤3:=by
  unfold zE at hap
  simp only [Bool.and_eq_true,decide_eq_true_eq] at hap
  have:=h.1
  omega
 have hsl:=za (fun (s:Sys) (hs:s∈ss)=>zcX (hsv s hs))
 have hf16:=za (fun (s:Sys) (hs:s∈ss)=>show Few 16 s.edges from by
  obtain⟨q,_,_,hq,hf⟩:=zbP (hsv s hs)
  exact fun e he=>by have:=hf e he;omega)
 have hU:zS ss≤63:=by
  have key:∀ l:List Sys,(∀ s∈l,zl s=true)→zS l≤63:=by
   intro l hl
   have:∀ n,zS (l.take n)≤63:=by
    intro n
    induction n with
    |zero=>simp [zS]
    |succ n ih =>
     rcases Nat.lt_or_ge n l.length with h1|h1
     ·rw [zbW (List.getElem?_eq_getElem h1)]
      have:=zP (hl _ (List.getElem_mem h1))
      have:=Nat.or_lt_two_pow (n:=6) (x:=zS (l.take n)) (y:=l[n].al.toNat) (by omega) (by omega)
      omega
     ·rw [List.take_of_length_le (by omega)]
      rw [List.take_of_length_le h1] at ih
      exact ih
   have h2:=this l.length
   rwa [List.take_length] at h2
  exact key ss hsv
 have hal:=(zj hv).1
 obtain⟨al,hale⟩:∃ al:Nat,Hid (a.al=al):=⟨a.al.toNat,by unfold Hid;omega⟩
 have hal6:al≤63:=by have:=hale.out;omega
 have hpa:=za (show zaF ss=(zS ss:Int) by unfold zaF;rw [hap];rfl)
 have hap3:=za (show a.al.toNat=al by have:=hale.out;omega)
 have hpal:=za (show 0≤p.al∧p.al≤63 from (zj hp).1)
 rw [hap3.out]
 have HS:=za (fun W (hW:Ext w W)=>h.ext hW)
 have HT:=za (fun W (hW:Ext w W)=>hT.ext hW)
 have HA:=za (fun W (hW:Ext w W)=>hA0.ext hW)
 have HP:=za (fun W (hW:Ext w W)=>hP0.ext hW)
 have HGA:=za (fun W (hW:Ext w W)=>hga.ext hW)
 have Hv:=za hv
 have Hp:=za hp
 generalize hUe:zS ss=U at *
 have HU:=za hUe
 clear hUe h hT hA0 hP0 hga hv hp hap hsv hal
 go_enter Tryz.func119,Tryz.ntmps119
 go_upto_region 1 with fail
 have hw2:Ext w ((w.alloc (.cells #[.pointer (some ⟨ga,0,none⟩)] 187)).alloc (.cells #[.int .i64 p.al,.slice C m2 d2,.slice C' m2' d2'] 31)):=((Ext.refl w).alloc _).alloc _
 obtain⟨b4,b5⟩:=zU (Ext.refl ((w.alloc (.cells #[.pointer (some ⟨ga,0,none⟩)] 187)).alloc (.cells #[.int .i64 p.al,.slice C m2 d2,.slice C' m2' d2'] 31)))
 generalize (w.alloc (.cells #[.pointer (some ⟨ga,0,none⟩)] 187)).alloc (.cells #[.int .i64 p.al,.slice C m2 d2,.slice C' m2' d2'] 31)=w2 at *
 go_upto_region 2 with (go_at_call 208;refine (zeX (HS.out _ hw2) hf16.out (by omega)).mono ?_;rintro e w3 ⟨M,dm,rfl,hpt,hx3⟩)
 have hw3:=hw2.trans hx3
 have b8:=Blk.new w3 222 #[.slice A k c,.slice M k dm]
 have hx4:=hx3.alloc (.cells #[.slice A k c,.slice M k dm] 222)
 have hpt4:=hpt.ext ((Ext.refl w3).alloc (.cells #[.slice A k c,.slice M k dm] 222))
 generalize hg8:w3.heap.size=g8 at *
 clear hpt hg8
 generalize w3.alloc (.cells #[.slice A k c,.slice M k dm] 222)=w4 at *
 have hw4:=hw2.trans hx4
 clear hw3 hx3
 go_upto_region 3 with (go_at_call 107;refine (zba (HS.out _ hw4)).mono ?_;rw [hpa.out];rintro e w5 ⟨rfl,hx5⟩)
 have b45:=b4.ext (hx4.trans hx5)
 have b55:=b5.ext (hx4.trans hx5)
 have b85:=b8.ext hx5
 have hpt5:=hpt4.ext hx5
 have hw5:=hw4.trans hx5
 have k4:=b45.cell 0
 clear hx4 hx5 b4 b5 b8 hpt4 hw2 hw4
 go_upto_region 5 with fail
 clear k4
 have hB4:=za (fun W (hW:Ext w5 W)=>b45.ext hW)
 have hB5:=za (fun W (hW:Ext w5 W)=>b55.ext hW)
 have hB8:=za (fun W (hW:Ext w5 W)=>b85.ext hW)
 have hPT:=za (fun W (hW:Ext w5 W)=>hpt5.ext hW)
 clear b45 b55 b85 hpt5
 have HGA5:=za (fun W (hW:Ext w5 W)=>HGA.out W (hw5.trans hW))
 have HA5:=za (fun W (hW:Ext w5 W)=>HA.out W (hw5.trans hW))
 clear HGA HA
 go_cut [10,11] (fun v10 v11 wx=>∃ (g10 g11:Nat) (UA RA:Option Addr) (uc rc:Nat),v10=.pointer (some ⟨g10,0,none⟩)∧v11=.pointer (some ⟨g11,0,none⟩)∧Ext w5 wx∧Blk wx g10 177 #[.slice UA a.next.length uc]∧Blk wx g11 177 #[.slice RA p.next.length rc]∧TbO wx UA uc a∧TbO wx RA rc p)
 case first =>
  have c4:∀ W,Ext w5 W→W.cell? ⟨w.heap.size,0,none⟩=some (.pointer (some ⟨ga,0,none⟩)):=fun W hW=>by rw [(hB4.out W hW).cell];rfl
  have ca:∀ W,Ext w5 W→∀ j,W.cell? ⟨ga,j,none⟩=#[Value.int .i64 a.al,.slice B m1 d1,.slice B' m1' d1'][j]?:=fun W hW=>(HGA5.out W hW).cell
  have c5:∀ W,Ext w5 W→∀ j,W.cell? ⟨w.heap.size+1,j,none⟩=#[Value.int .i64 p.al,.slice C m2 d2,.slice C' m2' d2'][j]?:=fun W hW=>(hB5.out W hW).cell
  have hTA:=za (fun W (hW:Ext w5 W)=>zbf (d:=d1) (d':=d1') (HA5.out W hW) Hv.out)
  have hTP:=za (fun W (hW:Ext w5 W)=>zbf (d:=d2) (d':=d2') (HP.out W (hw5.trans hW)) Hp.out)
  have hww:=Ext.refl w5
  refine uR (fun X=>Ext w5 X) [5,8,9] (zw.app [0,4] (zw.three 1 (zw.app [2] (zw.three 3 (zw.three 5 (zw.two 6 (zw.of [7,8,9]) 7 (zw.of [6,8,9])) 6 (zw.two 5 (zw.of [7,8,9]) 7 (zw.of [5,8,9])) 7 (zw.two 5 (zw.of [6,8,9]) 6 (zw.of [5,8,9]))) 6 (zw.two 3 (zw.two 5 (zw.of [7,8,9]) 7 (zw.of [5,8,9])) 7 (zw.of [3,5,8,9])) 7 (zw.two 3 (zw.two 5 (zw.of [6,8,9]) 6 (zw.of [5,8,9])) 6 (zw.of [3,5,8,9])))) 6 (zw.two 1 (zw.app [2] (zw.two 3 (zw.two 5 (zw.of [7,8,9]) 7 (zw.of [5,8,9])) 7 (zw.of [3,5,8,9]))) 7 (zw.of [1,2,3,5,8,9])) 7 (zw.two 1 (zw.app [2] (zw.two 3 (zw.two 5 (zw.of [6,8,9]) 6 (zw.of [5,8,9])) 6 (zw.of [3,5,8,9]))) 6 (zw.of [1,2,3,5,8,9])))) ?_
  refine uQ ?_
  have hx0:Ext w5 w5.drew:=hww.drew
  generalize w5.drew=wd at *
  refine uQ ?_
  refine zaH rfl rfl rfl rfl rfl rfl (fun K hK=>?_) (fun K hK=>?_) (fun K hK=>?_)
  ·go_simp
   refine hK.out _ _ hx0 ?_
   refine pT ?_
   refine uQ ?_
   refine zaH rfl rfl rfl rfl rfl rfl (fun K hK=>?_) (fun K hK=>?_) (fun K hK=>?_)
   ·go_simp
    refine (hTA.out _ hx0).mono ?_
    rintro e w20 ⟨UA,uc,rfl,hA,hx1⟩
    replace hx0:=hx0.trans hx1
    clear hx1
    refine hK.out _ _ hx0 ?_
    refine pT ?_
    refine zaH rfl rfl rfl rfl rfl rfl (fun K hK=>?_) (fun K hK=>?_) (fun K hK=>?_)
    ·go_simp
     refine (hTP.out _ hx0).mono ?_
     rintro e w21 ⟨RA,rc,rfl,hP,hx1⟩
     replace hx0:=hx0.trans hx1
     replace hA:=hA.ext hx1
     clear hx1
     refine hK.out _ _ hx0 ?_
     refine pT ?_
     refine zm rfl rfl rfl rfl (fun K hK=>?_) (fun K hK=>?_)
     ·go_simp
      have hGh10:=hx0.size
      have hx1:=(Ext.refl w21).alloc (.cells #[.slice none 0 0] 177)
      replace hx0:=hx0.trans hx1
      replace hA:=hA.ext hx1
      replace hP:=hP.ext hx1
      clear hx1
      have h10:=Blk.new w21 177 #[.slice none 0 0]
      refine hK.out _ _ hx0 ?_
      refine pT ?_
      generalize w21.alloc (.cells #[.slice none 0 0] 177)=w22 at *
      generalize w21.heap.size=g10 at *
      exact yK08a6
     ·go_simp
      have hGh11:=hx0.size
      have hx1:=(Ext.refl w21).alloc (.cells #[.slice none 0 0] 177)
      replace hx0:=hx0.trans hx1
      replace hA:=hA.ext hx1
      replace hP:=hP.ext hx1
      clear hx1
      have h11:=Blk.new w21 177 #[.slice none 0 0]
      refine hK.out _ _ hx0 ?_
      refine pT ?_
      generalize w21.alloc (.cells #[.slice none 0 0] 177)=w22 at *
      generalize w21.heap.size=g11 at *
      exact yK08a5
    ·go_simp
     have hGh10:=hx0.size
     have hx1:=(Ext.refl w20).alloc (.cells #[.slice none 0 0] 177)
     replace hx0:=hx0.trans hx1
     replace hA:=hA.ext hx1
     clear hx1
     have h10:=Blk.new w20 177 #[.slice none 0 0]
     refine hK.out _ _ hx0 ?_
     refine pT ?_
     generalize w20.alloc (.cells #[.slice none 0 0] 177)=w21 at *
     generalize w20.heap.size=g10 at *
     refine zm rfl rfl rfl rfl (fun K hK=>?_) (fun K hK=>?_)
     ·go_simp
      refine (hTP.out _ hx0).mono ?_
      rintro e w22 ⟨RA,rc,rfl,hP,hx1⟩
      replace hx0:=hx0.trans hx1
      replace h10:=h10.ext hx1
      replace hA:=hA.ext hx1
      clear hx1
      refine hK.out _ _ hx0 ?_
      refine pT ?_
      exact yK08a6
     ·go_simp
      have hne:=Nat.ne_of_lt h10.lt
      have hGh11:=hx0.size
      have hx1:=(Ext.refl w21).alloc (.cells #[.slice none 0 0] 177)
      replace hx0:=hx0.trans hx1
      replace h10:=h10.ext hx1
      replace hA:=hA.ext hx1
      clear hx1
      have h11:=Blk.new w21 177 #[.slice none 0 0]
      refine hK.out _ _ hx0 ?_
      refine pT ?_
      generalize w21.alloc (.cells #[.slice none 0 0] 177)=w22 at *
      generalize w21.heap.size=g11 at *
      exact yK08a7
    ·go_simp
     have hGh11:=hx0.size
     have hx1:=(Ext.refl w20).alloc (.cells #[.slice none 0 0] 177)
     replace hx0:=hx0.trans hx1
     replace hA:=hA.ext hx1
     clear hx1
     have h11:=Blk.new w20 177 #[.slice none 0 0]
     refine hK.out _ _ hx0 ?_
     refine pT ?_
     generalize w20.alloc (.cells #[.slice none 0 0] 177)=w21 at *
     generalize w20.heap.size=g11 at *
     refine zm rfl rfl rfl rfl (fun K hK=>?_) (fun K hK=>?_)
     ·go_simp
      refine (hTP.out _ hx0).mono ?_
      rintro e w22 ⟨RA,rc,rfl,hP,hx1⟩
      replace hx0:=hx0.trans hx1
      replace h11:=h11.ext hx1
      replace hA:=hA.ext hx1
      clear hx1
      refine hK.out _ _ hx0 ?_
      refine pT ?_
      exact yK08a5
     ·go_simp
      have hne:=Nat.ne_of_lt h11.lt
      have hGh10:=hx0.size
      have hx1:=(Ext.refl w21).alloc (.cells #[.slice none 0 0] 177)
      replace hx0:=hx0.trans hx1
      replace h11:=h11.ext hx1
      replace hA:=hA.ext hx1
      clear hx1
      have h10:=Blk.new w21 177 #[.slice none 0 0]
      refine hK.out _ _ hx0 ?_
      refine pT ?_
      generalize w21.alloc (.cells #[.slice none 0 0] 177)=w22 at *
      generalize w21.heap.size=g10 at *
      exact yK08a7
   ·go_simp
    have hGh10:=hx0.size
    have hx1:=(Ext.refl wd).alloc (.cells #[.slice none 0 0] 177)
    replace hx0:=hx0.trans hx1
    clear hx1
    have h10:=Blk.new wd 177 #[.slice none 0 0]
    refine hK.out _ _ hx0 ?_
    refine pT ?_
    generalize wd.alloc (.cells #[.slice none 0 0] 177)=w20 at *
    generalize wd.heap.size=g10 at *
    exact yK08a2
   ·go_simp
    have hGh11:=hx0.size
    have hx1:=(Ext.refl wd).alloc (.cells #[.slice none 0 0] 177)
    replace hx0:=hx0.trans hx1
    clear hx1
    have h11:=Blk.new wd 177 #[.slice none 0 0]
    refine hK.out _ _ hx0 ?_
    refine pT ?_
    generalize wd.alloc (.cells #[.slice none 0 0] 177)=w20 at *
    generalize wd.heap.size=g11 at *
    exact yK08a1
  ·go_simp
   have hGh10:=hx0.size
   have hx1:=(Ext.refl wd).alloc (.cells #[.slice none 0 0] 177)
   replace hx0:=hx0.trans hx1
   clear hx1
   have h10:=Blk.new wd 177 #[.slice none 0 0]
   refine hK.out _ _ hx0 ?_
   refine pT ?_
   generalize wd.alloc (.cells #[.slice none 0 0] 177)=w20 at *
   generalize wd.heap.size=g10 at *
   refine zm rfl rfl rfl rfl (fun K hK=>?_) (fun K hK=>?_)
   ·go_simp
    refine hK.out _ _ hx0 ?_
    refine pT ?_
    refine uQ ?_
    exact yK08a2
   ·go_simp
    have hne:=Nat.ne_of_lt h10.lt
    have hGh11:=hx0.size
    have hx1:=(Ext.refl w20).alloc (.cells #[.slice none 0 0] 177)
    replace hx0:=hx0.trans hx1
    replace h10:=h10.ext hx1
    clear hx1
    have h11:=Blk.new w20 177 #[.slice none 0 0]
    refine hK.out _ _ hx0 ?_
    refine pT ?_
    generalize w20.alloc (.cells #[.slice none 0 0] 177)=w21 at *
    generalize w20.heap.size=g11 at *
    exact yK08a4
  ·go_simp
   have hGh11:=hx0.size
   have hx1:=(Ext.refl wd).alloc (.cells #[.slice none 0 0] 177)
   replace hx0:=hx0.trans hx1
   clear hx1
   have h11:=Blk.new wd 177 #[.slice none 0 0]
   refine hK.out _ _ hx0 ?_
   refine pT ?_
   generalize wd.alloc (.cells #[.slice none 0 0] 177)=w20 at *
   generalize wd.heap.size=g11 at *
   refine zm rfl rfl rfl rfl (fun K hK=>?_) (fun K hK=>?_)
   ·go_simp
    refine hK.out _ _ hx0 ?_
    refine pT ?_
    refine uQ ?_
    exact yK08a1
   ·go_simp
    have hne:=Nat.ne_of_lt h11.lt
    have hGh10:=hx0.size
    have hx1:=(Ext.refl w20).alloc (.cells #[.slice none 0 0] 177)
    replace hx0:=hx0.trans hx1
    replace h11:=h11.ext hx1
    clear hx1
    have h10:=Blk.new w20 177 #[.slice none 0 0]
    refine hK.out _ _ hx0 ?_
    refine pT ?_
    generalize w20.alloc (.cells #[.slice none 0 0] 177)=w21 at *
    generalize w20.heap.size=g10 at *
    exact yK08a4
 case rest =>
  obtain⟨g10,g11,UA,RA,uc,rc,rfl,rfl,hx6,h10,h11,hA,hP⟩:=hcut
  have hH10:=za (fun W (hW:Ext wc W)=>h10.ext hW)
  have hH11:=za (fun W (hW:Ext wc W)=>h11.ext hW)
  have hw6:=hw5.trans hx6
  go_upto_region 6 with fail
  go_cut [12,13] (fun v12 v13 wx=>∃ (g12 g13:Nat),v12=.pointer (some ⟨g12,0,none⟩)∧v13=.pointer (some ⟨g13,0,none⟩)∧Ext wc wx∧Blk wx g12 3 #[.int .i64 (a.next.length:Nat)]∧Blk wx g13 3 #[.int .i64 (p.next.length:Nat)])
  case first =>
   have c10:∀ W,Ext wc W→W.cell? ⟨g10,0,none⟩=some (.slice UA a.next.length uc):=fun W hW=>by rw [(hH10.out W hW).cell];rfl
   have c11:∀ W,Ext wc W→W.cell? ⟨g11,0,none⟩=some (.slice RA p.next.length rc):=fun W hW=>by rw [(hH11.out W hW).cell];rfl
   have hww:=Ext.refl wc
   clear h10 h11 hA hP
   refine uR (fun X=>Ext wc X) [7] (zw.app [0,1,2,3] (zw.two 4 (zw.of [5,6,7]) 5 (zw.of [4,6,7]))) ?_
   refine uQ ?_
   have hx0:Ext wc wc.drew:=hww.drew
   generalize wc.drew=wd at *
   refine uQ ?_
   refine zm rfl rfl rfl rfl (fun K hK=>?_) (fun K hK=>?_)
   ·go_simp
    have hGh12:=hx0.size
    have hx1:=(Ext.refl wd).alloc (.cells #[.int .i64 0] 3)
    replace hx0:=hx0.trans hx1
    clear hx1
    have h12:=Blk.new wd 3 #[.int .i64 0]
    refine hK.out _ _ hx0 ?_
    refine pT ?_
    generalize wd.alloc (.cells #[.int .i64 0] 3)=w20 at *
    generalize wd.heap.size=g12 at *
    (refine zd rfl rfl rfl (fun K hK=>?_);go_simp)
    have hne:=Nat.ne_of_lt h12.lt
    have hGh13:=hx0.size
    have hx1:=(Ext.refl w20).alloc (.cells #[.int .i64 0] 3)
    replace hx0:=hx0.trans hx1
    replace h12:=h12.ext hx1
    clear hx1
    have h13:=Blk.new w20 3 #[.int .i64 0]
    refine hK.out _ _ hx0 ?_
    refine pT ?_
    generalize w20.alloc (.cells #[.int .i64 0] 3)=w21 at *
    generalize w20.heap.size=g13 at *
    exact yK08a8
   ·go_simp
    have hGh13:=hx0.size
    have hx1:=(Ext.refl wd).alloc (.cells #[.int .i64 0] 3)
    replace hx0:=hx0.trans hx1
    clear hx1
    have h13:=Blk.new wd 3 #[.int .i64 0]
    refine hK.out _ _ hx0 ?_
    refine pT ?_
    generalize wd.alloc (.cells #[.int .i64 0] 3)=w20 at *
    generalize wd.heap.size=g13 at *
    (refine zd rfl rfl rfl (fun K hK=>?_);go_simp)
    have hne:=Nat.ne_of_lt h13.lt
    have hGh12:=hx0.size
    have hx1:=(Ext.refl w20).alloc (.cells #[.int .i64 0] 3)
    replace hx0:=hx0.trans hx1
    replace h13:=h13.ext hx1
    clear hx1
    have h12:=Blk.new w20 3 #[.int .i64 0]
    refine hK.out _ _ hx0 ?_
    refine pT ?_
    generalize w20.alloc (.cells #[.int .i64 0] 3)=w21 at *
    generalize w20.heap.size=g12 at *
    exact yK08a8
  case rest =>
   obtain⟨g12,g13,rfl,rfl,hx7,h12,h13⟩:=hcut
   rename World=>w7
   have hw9:=hw6.trans hx7
   have hC:BCaps w7 g8 g10 g11 g12 g13 A M UA RA k c dm uc rc ss a p:=by
    obtain⟨lo3,hi3,htu⟩:=hA.at_
    obtain⟨lo4,hi4,htr⟩:=hP.at_
    exact⟨hB8.out _ (hx6.trans hx7),h10.ext hx7,h11.ext hx7,h12,h13,⟨_,_,_,_,hPT.out _ (hx6.trans hx7)⟩,⟨lo3,hi3,htu.ext hx7⟩,⟨lo4,hi4,htr.ext hx7⟩⟩
   have hGC:GCaps w7 w.heap.size ga (w.heap.size+1) g12 g13 a p:=⟨hB4.out _ (hx6.trans hx7),⟨B,m1,d1,B',m1',d1',lo1,hi1,HGA5.out _ (hx6.trans hx7),HA5.out _ (hx6.trans hx7)⟩,⟨C,m2,d2,C',m2',d2',lo2,hi2,hB5.out _ (hx6.trans hx7),HP.out _ hw9⟩,h12,h13⟩
   obtain⟨N,hN⟩:∃ N:Nat,Hid (zab (zbc ss [a,p])=N):=⟨_,rfl⟩
   obtain⟨⟨_,n12⟩,⟨_,m12⟩⟩:=And.intro (zj Hv.out).2.1 (zj Hp.out).2.1
   obtain⟨⟨n1,_⟩,⟨m1_,_⟩⟩:=And.intro (zj Hv.out).2.1 (zj Hp.out).2.1
   obtain⟨S,hS⟩:∃ S:Nat,Hid (zab (ss.map zeI)=S):=⟨_,rfl⟩
   have hS4:1≤S∧S≤4096:=by
    rw [← hS.out]
    refine⟨zdm hsl.out,Nat.le_trans (zcE hsl.out) ?_⟩
    have:=(HS.out w (Ext.refl _)).1
    calc 16 ^ ss.length≤16 ^ 3:=Nat.pow_le_pow_right (by omega) (by omega)
     _=4096:=by decide
   have hNe:S*a.next.length*p.next.length=N:=by
    rw [← hN.out,← hS.out,show zbc ss [a,p]=ss.map zeI++[zdB a,zdB p] from rfl,zcc]
    simp [zab,zaz,zdB,Nat.mul_assoc]
   have hSn:S*a.next.length≤4096*12:=Nat.mul_le_mul hS4.2 n12
   have hNle:N≤4096*12*12:=by rw [← hNe];exact Nat.mul_le_mul hSn m12
   have hN1:1≤N:=by rw [← hNe];exact Nat.mul_pos (Nat.mul_pos hS4.1 n1) m1_
   obtain⟨sn,hsn⟩:∃ z:Nat,Hid (S*a.next.length=z):=⟨_,rfl⟩
   rw [hsn.out] at hNe hSn
   have hsni:(S:Int)*(a.next.length:Int)=(sn:Int):=by rw [← hsn.out];exact (Int.natCast_mul S _).symm
   have hNi:(sn:Int)*(p.next.length:Int)=(N:Int):=by rw [← hNe];exact (Int.natCast_mul sn _).symm
   have Hd:=za (show ∀ x l,x<N→l<6→∀ y∈zbQ ss a p x l,y<N from fun x l _ hl y hy=>by
    rw [zdS] at hy
    rw [← hN.out]
    refine pnx_lt (fun mm hmm=>?_) hl y hy
    rcases List.mem_append.1 hmm with h1|h1
    ·obtain⟨s,hs',rfl⟩:=List.mem_map.1 h1
     exact zfv (hsl.out s hs')
    ·obtain⟨b,hb',rfl⟩:=List.mem_map.1 h1
     simp at hb'
     rcases hb' with rfl|rfl
     ·exact zde Hv.out
     ·exact zde Hp.out)
   have Hdl:=za (show ∀ x l,(zbQ ss a p x l).length≤4096 from fun x l=>by
    unfold zbQ
    rw [List.length_map]
    refine Nat.le_trans (nx_len hsl.out _ l) ?_
    have:=(HS.out w (Ext.refl _)).1
    calc 16 ^ ss.length≤16 ^ 3:=Nat.pow_le_pow_right (by omega) (by omega)
     _=4096:=by decide)
   have hrise:=za (zdH (U|||al))
   have key:=za (fun W (hW:Ext w7 W) A1 c1 AL q' cL (hA1:zal W A1 1 [0]) (hL:zal W AL q' (letters (U|||al) 6))=>zdi (w:=W) (N:=N) (kn:=209) (kg:=211) (m:=1) (c:=c1) (cL:=cL)
    (capn:=#[.pointer (some ⟨g10,0,none⟩),.pointer (some ⟨g13,0,none⟩),.pointer (some ⟨g12,0,none⟩),.pointer (some ⟨g11,0,none⟩),.pointer (some ⟨g8,0,none⟩)])
    (capg:=#[.pointer (some ⟨w.heap.size,0,none⟩),.pointer (some ⟨g13,0,none⟩),.pointer (some ⟨g12,0,none⟩),.pointer (some ⟨w.heap.size+1,0,none⟩)])
    (goal:=zcJ a p) (d:=zbQ ss a p) (D:=4096) hA1 (fun n hn=>by simp at hn;omega) (by omega) hL hrise.out (by omega) (by omega) (fun args W=>by kernel_rfl) (fun args W=>by kernel_rfl)
    (fun W' hW' n hn=>brk_goal (hGC.ext (hW.trans hW')) Hv.out Hp.out (by omega))
    (fun n l hn hl=>⟨Hdl.out n l,Hd.out n l hn (hrise.out.1 l hl)⟩)
    (fun W' hW' n l hn hl base A m c xs hb0 hb hm zil=>brk_next (hC.ext hW) (HT.out _ (hw9.trans hW)) hW' hsl.out hk3 Hv.out Hp.out (by rw [hN.out];exact hn) (hrise.out.1 l hl) hb0 hb hm zil))
   have hSZ:=za (show ∀ W,Ext w7 W→Calls Tryz.prog 212 #[.agg #[.slice A k c,.slice M k dm]] W fun e w'=>e=.returned (.int .i64 (S:Nat))∧Ext W w' from fun W hW=>by
    have:=zhn (c:=c) (dm:=dm) (hPT.out W ((hx6.trans hx7).trans hW)) hsl.out hk3
    rw [hS.out] at this
    exact this)
   have hLT:=za (fun W=>zaK (U|||al) (by have:=Nat.or_lt_two_pow (n:=6) (x:=U) (y:=al) (by omega) (by omega);unfold Sm;omega) W)
   have hor:bits .or .i64 (U:Int) (al:Int)=((U|||al:Nat):Int):=zbG (by unfold Sm;omega) (by unfold Sm;omega)
   have c8:∀ W,Ext w7 W→∀ j,W.cell? ⟨g8,j,none⟩=#[Value.slice A k c,.slice M k dm][j]?:=fun W hW=>(hC.h8.ext hW).cell
   have c12:∀ W,Ext w7 W→W.cell? ⟨g12,0,none⟩=some (.int .i64 (a.next.length:Nat)):=fun W hW=>by rw [(hC.h12.ext hW).cell];rfl
   have c13:∀ W,Ext w7 W→W.cell? ⟨g13,0,none⟩=some (.int .i64 (p.next.length:Nat)):=fun W hW=>by rw [(hC.h13.ext hW).cell];rfl
   have c4:∀ W,Ext w7 W→W.cell? ⟨w.heap.size,0,none⟩=some (.pointer (some ⟨ga,0,none⟩)):=fun W hW=>by rw [(hGC.h4.ext hW).cell];rfl
   have ca:∀ W,Ext w7 W→∀ j,W.cell? ⟨ga,j,none⟩=#[Value.int .i64 (al:Nat),.slice B m1 d1,.slice B' m1' d1'][j]?:=fun W hW=>by
    have:=(HGA5.out W ((hx6.trans hx7).trans hW)).cell
    rw [hale.out] at this
    exact this
   have hw1:IntKind.i64.wrap (sn:Int)=(sn:Int):=zfW sn (by omega)
   have hw2:IntKind.i64.wrap (N:Int)=(N:Int):=zfW N (by omega)
   have hww:=Ext.refl w7
   clear hC hGC h10 h11 h12 h13 hA hP
   go_upto_region 9 with fail
   refine uR (fun X=>Ext w7 X) [16] (zw.app [0,2,4,7,8,14,15] (zw.three 1 (zw.app [3,5] (zw.two 6 (zw.of [9,10,11,12,13,16,17,18,19,20]) 9 (zw.app [10,11,12] (zw.two 6 (zw.of [13,16,17,18,19,20]) 13 (zw.of [6,16,17,18,19,20]))))) 6 (zw.two 1 (zw.of [3,5,9,10,11,12,13,16,17,18,19,20]) 9 (zw.of [10,11,12,1,3,5,13,16,17,18,19,20])) 9 (zw.app [10,11,12] (zw.two 1 (zw.app [3,5] (zw.two 6 (zw.of [13,16,17,18,19,20]) 13 (zw.of [6,16,17,18,19,20]))) 6 (zw.of [1,3,5,13,16,17,18,19,20]))))) ?_
   refine uQ ?_
   have hx0:Ext w7 w7.drew:=hww.drew
   generalize w7.drew=wd at *
   refine uQ ?_
   refine zaH rfl rfl rfl rfl rfl rfl (fun K hK=>?_) (fun K hK=>?_) (fun K hK=>?_)
   ·go_simp
    refine (hSZ.out _ hx0).mono ?_
    rintro e w20 ⟨rfl,hx1⟩
    replace hx0:=hx0.trans hx1
    clear hx1
    refine hK.out _ _ hx0 ?_
    refine pT ?_
    refine uQ ?_
    refine zm rfl rfl rfl rfl (fun K hK=>?_) (fun K hK=>?_)
    ·go_simp
     have hI:=zck (x:=0) (Blk.new w20 3 #[.int .i64 ((0:Nat):Int)])
     have hx1:=(Ext.refl w20).alloc (.cells #[.int .i64 ((0:Nat):Int)] 3)
     replace hx0:=hx0.trans hx1
     clear hx1
     refine hK.out _ _ hx0 ?_
     refine pT ?_
     generalize w20.alloc (.cells #[.int .i64 ((0:Nat):Int)] 3)=w21 at *
     generalize w20.heap.size=g1 at *
     exact yK08a10
    ·go_simp
     exact yK08a3
   ·go_simp
    have hI:=zck (x:=0) (Blk.new wd 3 #[.int .i64 ((0:Nat):Int)])
    have hx1:=(Ext.refl wd).alloc (.cells #[.int .i64 ((0:Nat):Int)] 3)
    replace hx0:=hx0.trans hx1
    clear hx1
    refine hK.out _ _ hx0 ?_
    refine pT ?_
    generalize wd.alloc (.cells #[.int .i64 ((0:Nat):Int)] 3)=w20 at *
    generalize wd.heap.size=g1 at *
    refine zm rfl rfl rfl rfl (fun K hK=>?_) (fun K hK=>?_)
    ·go_simp
     refine (hSZ.out _ hx0).mono ?_
     rintro e w21 ⟨rfl,hx1⟩
     replace hx0:=hx0.trans hx1
     replace hI:=hI.ext hx1
     clear hx1
     refine hK.out _ _ hx0 ?_
     refine pT ?_
     refine uQ ?_
     exact yK08a10
    ·go_simp
     refine hK.out _ _ hx0 ?_
     refine pT ?_
     refine uQ ?_
     exact yK08a9
   ·go_simp
    refine hK.out _ _ hx0 ?_
    refine pT ?_
    refine uQ ?_
    refine zm rfl rfl rfl rfl (fun K hK=>?_) (fun K hK=>?_)
    ·go_simp
     refine (hSZ.out _ hx0).mono ?_
     rintro e w20 ⟨rfl,hx1⟩
     replace hx0:=hx0.trans hx1
     clear hx1
     exact yK08a3
    ·go_simp
     have hI:=zck (x:=0) (Blk.new wd 3 #[.int .i64 ((0:Nat):Int)])
     have hx1:=(Ext.refl wd).alloc (.cells #[.int .i64 ((0:Nat):Int)] 3)
     replace hx0:=hx0.trans hx1
     clear hx1
     refine hK.out _ _ hx0 ?_
     refine pT ?_
     generalize wd.alloc (.cells #[.int .i64 ((0:Nat):Int)] 3)=w20 at *
     generalize wd.heap.size=g1 at *
     exact yK08a9
noncomputable def lostB (d:Nat→Nat→List Nat) (start:List Nat) (goal:Nat→Bool) (L:List Nat):Bool:=@decide (Lost d start goal L) (Classical.propDecidable _)
noncomputable def zfA (d:Nat→Nat→List Nat) (start:List Nat) (goal:Nat→Bool) (L:List Nat):List Nat:=@dite _ (∃ v,Found d start goal L v) (Classical.propDecidable _) (fun h=>Classical.choose h) (fun _=>[])
section
variable {d:Nat→Nat→List Nat} {start L:List Nat} {goal:Nat→Bool}
theorem found_uniq (h6:∀ l∈L,l<6) {u v:List Nat}(hu:Found d start goal L u)(hv:Found d start goal L v):u=v:=by
 obtain⟨u1,⟨x,u2,u3⟩,u4⟩:=hu
 obtain⟨v1,⟨y,v2,v3⟩,v4⟩:=hv
 have h1:¬ zco u<zco v:=fun h=>by
  have:=v4 u u1 h x u2
  rw [u3] at this;cases this
 have h2:¬ zco v<zco u:=fun h=>by
  have:=u4 v v1 h y v2
  rw [v3] at this;cases this
 exact wval_inj _ u v (Nat.le_refl _) (fun l hl=>h6 l (u1 l hl)) (fun l hl=>h6 l (v1 l hl)) (by omega)
theorem zgm (h6:∀ l∈L,l<6) {v:List Nat}(h:Found d start goal L v):zfA d start goal L=v∧lostB d start goal L=false:=by
 constructor
 ·unfold zfA
  rw [@dif_pos _ (Classical.propDecidable _) ⟨v,h⟩]
  exact found_uniq h6 (Classical.choose_spec (⟨v,h⟩:∃ v,Found d start goal L v)) h
 ·refine @decide_eq_false _ (Classical.propDecidable _) fun hl=>?_
  obtain⟨h1,⟨x,h2,h3⟩,_⟩:=h
  have:=hl v h1 x h2
  rw [h3] at this;cases this
theorem zhm (h:Lost d start goal L):zfA d start goal L=[]∧lostB d start goal L=true:=by
 constructor
 ·unfold zfA
  rw [@dif_neg _ (Classical.propDecidable _)]
  rintro ⟨v,h1,⟨x,h2,h3⟩,_⟩
  have:=h v h1 x h2
  rw [h3] at this;cases this
 ·exact @decide_eq_true _ (Classical.propDecidable _) h
theorem zM.first {w:World} {e:Ending} {w':World}(h:zM w d start goal L e w')(h6:∀ l∈L,l<6):e=.returned (.tuple #[.string (wstr (zfA d start goal L)),.bool (!lostB d start goal L)])∧Ext w w':=by
 obtain⟨hx,⟨v,rfl,hF⟩|⟨rfl,hL⟩⟩:=h
 ·obtain⟨h1,h2⟩:=zgm h6 hF
  rw [h1,h2]
  exact⟨rfl,hx⟩
 ·obtain⟨h1,h2⟩:=zhm hL
  rw [h1,h2]
  exact⟨rfl,hx⟩
end
noncomputable def vioW (ss:List Sys) (a p:Aut):ByteArray:=wstr (zfA (zbQ ss a p) [0] (zcJ a p) (letters (zS ss|||a.al.toNat) 6))
noncomputable def vioB (ss:List Sys) (a p:Aut):Bool:=!lostB (zbQ ss a p) [0] (zcJ a p) (letters (zS ss|||a.al.toNat) 6)
theorem zdl (a:Nat):∀ l∈letters a 6,l<6:=fun _ hl=>(zF.1 hl).1
theorem brkD_free (ss:List Sys) (p:Aut):zbQ ss free p=pnx (zbc ss [p]):=by
 rw [zdS]
 funext x l
 exact pnx_free ss p x l
theorem brkG_free (p:Aut) (x:Nat):zcJ free p x=!zbr p (x % p.next.length):=by
 unfold zcJ
 rw [show free.next.length=1 from rfl,Nat.mod_one]
 rfl
theorem sl_one {w:World} {g lo hi n c:Nat} {B:Option Addr} {s:Sys}(hb:Blk w g 38 #[.int .i64 s.al,.int .i64 s.st,.slice B n c])(h:zN w lo hi B n s):∃ lo hi,zey w lo hi (some ⟨g,0,none⟩) 1 [s]:=by
 refine⟨0,hi+g+1,rfl,[.int .i64 s.al,.int .i64 s.st,.slice B n c],⟨rfl,by omega,fun _=>⟨_,rfl,Nat.zero_le _,by dsimp only;omega,fun j u hu=>?_⟩⟩,fun k t ht=>?_⟩
 ·rw [zT,Nat.zero_add,hb.cell]
  simpa using hu
 ·cases k with
  |zero =>
   simp at ht;subst ht
   exact⟨B,n,c,rfl,rfl,rfl,h.1,h.2.more (Nat.zero_le _) (by omega)⟩
  |succ k=>simp at ht
theorem al_one {w:World} {g lo hi n c n' c':Nat} {B B':Option Addr} {a:Aut}(hb:Blk w g 31 #[.int .i64 a.al,.slice B n c,.slice B' n' c'])(h:zG w lo hi B n B' n' a):∃ lo hi,ALAt w lo hi (some ⟨g,0,none⟩) 1 [a]:=by
 refine⟨0,hi+g+1,rfl,[.int .i64 a.al,.slice B n c,.slice B' n' c'],⟨rfl,by omega,fun _=>⟨_,rfl,Nat.zero_le _,by dsimp only;omega,fun j u hu=>?_⟩⟩,fun k t ht=>?_⟩
 ·rw [zT,Nat.zero_add,hb.cell]
  simpa using hu
 ·cases k with
  |zero =>
   simp at ht;subst ht
   exact⟨B,n,c,B',n',c',rfl,rfl,rfl,h.more (Nat.zero_le _) (by omega)⟩
  |succ k=>simp at ht
theorem al_two {w:World} {g lo hi n c n' c' lo2 hi2 m d m' d':Nat} {B B' C C':Option Addr} {a p:Aut}(hb:Blk w g 31 #[.int .i64 a.al,.slice B n c,.slice B' n' c',.int .i64 p.al,.slice C m d,.slice C' m' d'])(h:zG w lo hi B n B' n' a)(h':zG w lo2 hi2 C m C' m' p):∃ lo hi,ALAt w lo hi (some ⟨g,0,none⟩) 2 [a,p]:=by
 refine⟨0,hi+hi2+g+1,rfl,[.int .i64 a.al,.slice B n c,.slice B' n' c',.int .i64 p.al,.slice C m d,.slice C' m' d'],⟨rfl,by omega,fun _=>⟨_,rfl,Nat.zero_le _,by dsimp only;omega,fun j u hu=>?_⟩⟩,fun k t ht=>?_⟩
 ·rw [zT,Nat.zero_add,hb.cell]
  simpa using hu
 ·match k with
  |0 =>
   simp at ht;subst ht
   exact⟨B,n,c,B',n',c',rfl,rfl,rfl,h.more (Nat.zero_le _) (by omega)⟩
  |1 =>
   simp at ht;subst ht
   exact⟨C,m,d,C',m',d',rfl,rfl,rfl,h'.more (Nat.zero_le _) (by omega)⟩
  |k+2=>simp at ht
theorem zeros_row {w:World} {base g n:Nat}(h:w.ownsRow base 3 1 (.slice (some ⟨g,0,none⟩) n n) n (zaq (List.replicate n 0))):Lst zbp w base w.heap.size (some ⟨g,0,none⟩) (List.replicate n 0):=by
 have hh:=Lst.own_nats (xs:=List.replicate n 0) (W:=w) (base:=base) (c:=n) (A:=some ⟨g,0,none⟩) (by rw [List.length_replicate];exact h)
 exact hh
theorem zeros_blk {w:World} {g n:Nat} {cs:Array Value}(h:Blk w g 3 cs)(hc:cs.toList=zaq (List.replicate n 0))(hn:n≤100):Lst zbp w g (g+1) (some ⟨g,0,none⟩) (List.replicate n 0):=by
 refine Lst.of_nats ⟨by simp [zaq],by simp;omega,fun _=>⟨_,rfl,Nat.le_refl _,by simp,fun j u hu=>?_⟩⟩
 rw [zT,Nat.zero_add,h.cell]
 rw [← hc] at hu
 simpa using hu
theorem zbi {ss:List Sys}(h:zE ss=true):(1≤ss.length∧ss.length≤3)∧∀ s∈ss,zl s=true:=by
 unfold zE at h
 simp only [Bool.and_eq_true,decide_eq_true_eq,List.all_eq_true] at h
 exact⟨⟨h.1,h.2.1⟩,h.2.2⟩
theorem zfn {ss:List Sys}(h:∀ s∈ss,zl s=true):zS ss≤63:=by
 have:∀ n,zS (ss.take n)≤63:=by
  intro n
  induction n with
  |zero=>simp [zS]
  |succ n ih =>
   rcases Nat.lt_or_ge n ss.length with h1|h1
   ·rw [zbW (List.getElem?_eq_getElem h1)]
    have:=zP (h _ (List.getElem_mem h1))
    have:=Nat.or_lt_two_pow (n:=6) (x:=zS (ss.take n)) (y:=ss[n].al.toNat) (by omega) (by omega)
    omega
   ·rw [List.take_of_length_le (by omega)]
    rw [List.take_of_length_le h1] at ih
    exact ih
 have h2:=this ss.length
 rwa [List.take_length] at h2
theorem first_under {PA AA SA:Option Addr} {pn pc ac sc lo hi:Nat} {G:Int} {L:Nat} {ss:List Sys} {a p:Aut} {w:World}(h:zeR w PA pn AA 2 ss [a,p])(hap:zE ss=true)(hv:zi a=true)(hp:zi p=true)(hS:Lst zbp w lo hi SA (List.replicate (pn+2) 0))(hL:L=zS ss|||a.al.toNat) :
  Calls Tryz.prog 141 #[.agg #[.slice PA pn pc,.slice AA 2 ac,.slice SA (pn+2) sc,.int .i64 L,.int .i64 2,.int .i64 G]] w fun e w'=>e=.returned (.tuple #[.string (vioW ss a p),.bool (vioB ss a p)])∧Ext w w':=by
 obtain⟨⟨hp1,hp3⟩,hsv⟩:=zbi hap
 have hpn:pn=ss.length:=by obtain⟨_,_,h1⟩:=h.sys;exact h1.1
 have hok:zdd ss [a,p]:=⟨hsv,fun b hb=>by simp at hb;rcases hb with rfl|rfl<;>assumption,hp3,by simp⟩
 have hU:=zfn hsv
 have hal:=(zj hv).1
 have hL64:L<64:=by
  rw [hL]
  exact Nat.or_lt_two_pow (n:=6) (by omega) (by omega)
 obtain⟨_,⟨a1,_⟩,a3,_⟩:=zj hv
 obtain⟨_,⟨p1,_⟩,p3,_⟩:=zj hp
 have hsz:szs ss [a,p]=ss.map (fun s=>s.st.toNat)++[a.next.length,p.next.length]:=rfl
 have hln:(szs ss [a,p]).length=pn+2:=by rw [hsz];simp [hpn]
 have key:=zdy (pc:=pc) (ac:=ac) (sc:=sc) (K:=2) (G:=G) (goal:=zcJ a p) h hok hS hln hL64 (fun W hW x A l hh c mv hx hl=>by
  have e0:(szs ss [a,p])[pn]?=some a.next.length:=by rw [hsz,List.getElem?_append_right (by simp [hpn])];simp [hpn]
  have e1:(szs ss [a,p])[pn+1]?=some p.next.length:=by rw [hsz,List.getElem?_append_right (by simp [hpn])];simp [hpn]
  have d0:(szs ss [a,p]).drop (pn+1)=[p.next.length]:=by
   rw [hsz,List.drop_append,List.drop_of_length_le (by simp [hpn])]
   simp [hpn]
  have d1:(szs ss [a,p]).drop (pn+1+1)=[]:=List.drop_of_length_le (by rw [hln];omega)
  have f0:=zhC (x:=x) e0
  have f1:=zhC (x:=x) e1
  rw [d0] at f0
  rw [d1] at f1
  simp only [zaz,Nat.mul_one,Nat.div_one] at f0 f1
  exact zib (h.ext hW) hl (by rw [zcP,hln]) f0 (by rw [a3];exact Nat.mod_lt _ a1) f1 (by rw [p3];exact Nat.mod_lt _ p1))
 refine key.mono fun e w' hr=>?_
 have:=hr.first (zdl L)
 rw [← zdS,hL] at this
 exact this
theorem zhh {PA AA SA:Option Addr} {pn pc ac sc lo hi:Nat} {G:Int} {L:Nat} {ss:List Sys} {p:Aut} {w:World}(h:zeR w PA pn AA 1 ss [p])(hap:zE ss=true)(hp:zi p=true)(hS:Lst zbp w lo hi SA (List.replicate (pn+1) 0))(hL:L=zS ss) :
  Calls Tryz.prog 141 #[.agg #[.slice PA pn pc,.slice AA 1 ac,.slice SA (pn+1) sc,.int .i64 L,.int .i64 3,.int .i64 G]] w fun e w'=>e=.returned (.tuple #[.string (vioW ss free p),.bool (vioB ss free p)])∧Ext w w':=by
 obtain⟨⟨hp1,hp3⟩,hsv⟩:=zbi hap
 have hpn:pn=ss.length:=by obtain⟨_,_,h1⟩:=h.sys;exact h1.1
 have hok:zdd ss [p]:=⟨hsv,fun b hb=>by simp at hb;subst hb;assumption,hp3,by simp⟩
 have hU:=zfn hsv
 obtain⟨_,⟨p1,_⟩,p3,_⟩:=zj hp
 have hsz:szs ss [p]=ss.map (fun s=>s.st.toNat)++[p.next.length]:=rfl
 have hln:(szs ss [p]).length=pn+1:=by rw [hsz];simp [hpn]
 have key:=zdy (pc:=pc) (ac:=ac) (sc:=sc) (K:=3) (G:=G) (goal:=zcJ free p) h hok hS hln (show L<64 by omega) (fun W hW x A l hh c mv hx hl=>by
  have e0:(szs ss [p])[pn]?=some p.next.length:=by rw [hsz,List.getElem?_append_right (by simp [hpn])];simp [hpn]
  have d1:(szs ss [p]).drop (pn+1)=[]:=List.drop_of_length_le (by rw [hln];omega)
  have f0:=zhC (x:=x) e0
  rw [d1] at f0
  simp only [zaz,Nat.div_one] at f0
  rw [brkG_free]
  exact zic (h.ext hW) hl (by rw [zcP,hln]) f0 (by rw [p3];exact Nat.mod_lt _ p1))
 refine key.mono fun e w' hr=>?_
 have:=hr.first (zdl L)
 rw [← brkD_free,hL] at this
 unfold vioW vioB
 rw [show free.al.toNat=0 from rfl,Nat.or_zero]
 exact this
theorem zfu (s:ByteArray) (a:Nat):(zbd s a).size≤s.size:=by
 have h:=zgr s a s.size
 rw [List.take_of_length_le (by simp)] at h
 have e:(zbd s a).size=(bnum (zeZ a s.data.toList)).length:=by unfold zbd;rw [strOfNums_size]
 rw [e,bnum,List.length_map]
 exact h
def zgI (ss:List Sys) (t:ByteArray):Bool:=zE ss&&(inB t (zS ss)&&ss.all fun s=>zeb s (zbd t s.al.toNat) != 0)
section
variable {lo hi n c:Nat} {A:Option Addr} {ss:List Sys} {t:ByteArray} {w:World}
theorem all_next {ss:List Sys} {f:Sys→Bool} {k:Nat} {s:Sys}(h:ss[k]?=some s)(ha:(ss.take k).all f=true)(hf:f s=true):(ss.take (k+1)).all f=true:=by
 rw [List.take_add_one,h,List.all_append,ha];simp [hf]
theorem all_not {ss:List Sys} {f:Sys→Bool} {k:Nat} {s:Sys}(h:ss[k]?=some s)(hf:f s=false):ss.all f=false:=by
 rw [List.all_eq_false];exact⟨s,List.mem_of_getElem? h,by simp [hf]⟩
theorem yK08a11 {P:Prop}(h:P:=by
 cases hb:(zeb s t' != 0)
 ·have hff:=za (hF.out hb)
  clear hF hN
  go_wp2
  go_ret
  exact⟨zk (by rw [hr.out,hff.out]),hxr.trans hx6⟩
 ·have hnn:=za (hN.out hb)
  clear hF hN
  go_wp2_with fail
  go_roundw
  case rel=>exact⟨k+1,by omega,by go_num,hnn,hxr.trans hx6⟩
  case measure=>simp [intOf];omega
 ):P:=h
theorem yK08a12 {P:Prop}(h:P:=by
 obtain rfl:k=n:=by omega
 have zio:=za (show (ss.all fun s=>zeb s (zbd t s.al.toNat) != 0)=true by have:=hall.out;rwa [List.take_of_length_le (by have:=hL.out;omega)] at this)
 go_wp2
 go_ret
 exact⟨zk (by rw [hr.out,zio.out]),hxr⟩
 ):P:=h
theorem zcY (h:zey w lo hi A n ss)(ht:t.size≤9223372036854775807) :
  Calls Tryz.prog 188 #[.slice A n c,.string t] w fun e w'=>e=.returned (.bool (zgI ss t))∧Ext w w':=by
 have hn:=h.len
 have hL:=za h.1
 have HS:=za (fun W (hW:Ext w W)=>h.ext hW)
 clear h
 cases hp:zE ss
 ·have hPA:=za (show zaF ss = -1 by unfold zaF;rw [hp];rfl)
  have hr:=za (show zgI ss t=false by unfold zgI;rw [hp];rfl)
  clear hp
  go_enter Tryz.func188,Tryz.ntmps188
  go_wp2_with (go_at_call 215;refine (zac (HS.out _ (Ext.refl _))).mono ?_;rw [hPA.out];rintro e w1 ⟨rfl,hx⟩)
  go_ret
  exact⟨zk (by rw [hr.out]),hx⟩
 ·have hv:=za (zbi hp).2
  have hu:=zfn hv.out
  have hPA:=za (show zaF ss=(zS ss:Int) by unfold zaF;rw [hp];rfl)
  have hr:=za (show zgI ss t=(inB t (zS ss)&&ss.all fun s=>zeb s (zbd t s.al.toNat) != 0) by unfold zgI;rw [hp];rfl)
  clear hp
  generalize zS ss=u at *
  cases hi:inB t u
  ·have Hi:=za hi
   rw [hi] at hr
   clear hi
   go_enter Tryz.func188,Tryz.ntmps188
   go_wp2_with (first
    |(go_at_call 215;refine (zac (HS.out _ (Ext.refl _))).mono ?_;rw [hPA.out];rintro e w1 ⟨rfl,hx⟩)
    |(go_at_call 147;refine (zaf ht hu).mono ?_;rw [Hi.out];rintro e w3 ⟨rfl,rfl⟩))
   go_ret
   exact⟨zk (by rw [hr.out];rfl),hx⟩
  ·have Hi:=za hi
   have hwd:=za (zaN hi)
   rw [hi,Bool.true_and] at hr
   clear hi
   go_enter Tryz.func188,Tryz.ntmps188
   go_wp2_with (first
    |(go_at_call 215;refine (zac (HS.out _ (Ext.refl _))).mono ?_;rw [hPA.out];rintro e w1 ⟨rfl,hx⟩)
    |(go_at_call 147;refine (zaf ht hu).mono ?_;rw [Hi.out];rintro e w3 ⟨rfl,rfl⟩))
   go_loopw [6] (fun i wr=>∃ k:Nat,k≤n∧i=.int .i64 k∧Hid ((ss.take k).all (fun s=>zeb s (zbd t s.al.toNat) != 0)=true)∧Ext w wr) (fun i _=>n - (intOf i).toNat)
   case atStart=>exact⟨0,Nat.zero_le _,rfl,rfl,hx⟩
   case round =>
    clear hx
    obtain⟨k,hk,rfl,hall,hxr⟩:=hrel
    by_cases hlt:k<n
    ·obtain⟨b,o,s,B,q,d,rfl,_,_,hs,c0,c1,c2,hsy⟩:=(HS.out wr hxr).sys hlt
     obtain⟨ha0,ha1⟩:=zP (hv.out s (List.mem_of_getElem? hs.out))
     obtain⟨al,hal⟩:∃ al:Nat,Hid (s.al=al):=⟨s.al.toNat,by unfold Hid;omega⟩
     have hal6:al≤63:=by have:=hal.out;omega
     have hto:s.al.toNat=al:=by have:=hal.out;omega
     have hsz2:=Nat.le_trans (zfu t al) ht
     have HR:=za (fun W=>zbV (w:=W) hwd.out hal6)
     have HC:=za (fun W (hW:Ext wr W)=>zhR (c:=d) (hsy.ext hW) hsz2)
     rw [hal.out] at c0 HC
     have d0:∀ W,Ext wr W→W.cell? ⟨b,o+k*3,none⟩=some (.int .i64 al):=fun W hW=>hW.cell_some c0
     have d1:∀ W,Ext wr W→W.cell? ⟨b,o+k*3+1,none⟩=some (.int .i64 s.st):=fun W hW=>hW.cell_some c1
     have d2:∀ W,Ext wr W→W.cell? ⟨b,o+k*3+2,none⟩=some (.slice B q d):=fun W hW=>hW.cell_some c2
     have hN:=za (fun hb=>all_next (f:=fun s=>zeb s (zbd t s.al.toNat) != 0) hs.out hall.out hb)
     have hF:=za (fun hb=>all_not (f:=fun s=>zeb s (zbd t s.al.toNat) != 0) hs.out hb)
     simp only [hto] at hN hF
     clear hto hsz2 hsy ha0 ha1 hall
     generalize zbd t al=t' at *
     have hww:=Ext.refl wr
     go_upto_region 7 with fail
     refine uR (fun X=>Ext wr X) [11] (zw.of [0,1,2,3,4,5,6,7,8,9,10,11,12]) ?_
     refine uQ ?_
     (refine zd rfl rfl rfl (fun K hK=>?_);go_simp)
     refine (HR.out _).mono ?_
     rintro e w' ⟨rfl,hx1⟩
     have hx2:=hww.drew.trans hx1
     refine hK.out _ _ hx2 ?_
     refine pT ?_
     (refine zb rfl rfl rfl rfl (fun K hK=>?_))
     go_simp
     refine (HC.out _ hx2).mono ?_
     rintro e w5 ⟨rfl,hx5⟩
     refine hK.out _ _ ?_
     refine pT ?_
     refine uQ ?_
     refine ze ?_
     have hx6:=hx2.trans hx5
     exact yK08a11
    ·exact yK08a12
theorem zH (h:zey w lo hi A n ss)(hT:Tab w)(ht:t.size≤9223372036854775807) :
  Calls Tryz.prog 42 #[.slice A n c,.string t] w fun e w'=>e=.returned (.bool (zgI ss t))∧Ext w w':=by
 have hn:=h.len
 have hL:=za h.1
 have HS:=za (fun W (hW:Ext w W)=>h.ext hW)
 have HT:=za (fun W (hW:Ext w W)=>hT.ext hW)
 clear h hT
 cases hp:zE ss
 ·have Hp:=za hp
  have hr:=za (show zgI ss t=false by unfold zgI;rw [hp];rfl)
  clear hp
  go_enter Tryz.func42,Tryz.ntmps42
  go_wp2_with (go_at_call 105;refine (zaC (HS.out _ (Ext.refl _))).mono ?_;rw [Hp.out];rintro e w1 ⟨rfl,hx⟩)
  go_ret
  exact⟨zk (by rw [hr.out]),hx⟩
 ·have Hp:=za hp
  have hv:=za (zbi hp).2
  have hu:=zfn hv.out
  have hPA:=za (show zaF ss=(zS ss:Int) by unfold zaF;rw [hp];rfl)
  have hr:=za (show zgI ss t=(inB t (zS ss)&&ss.all fun s=>zeb s (zbd t s.al.toNat) != 0) by unfold zgI;rw [hp];rfl)
  clear hp
  generalize zS ss=u at *
  cases hi:inB t u
  ·have Hi:=za (show (decide (t.size≤50000)&&zdJ t u)=false from hi)
   rw [hi] at hr
   clear hi
   go_enter Tryz.func42,Tryz.ntmps42
   go_wp2_with (first
    |(go_at_call 105;refine (zaC (HS.out _ (Ext.refl _))).mono ?_;rw [Hp.out];rintro e w1 ⟨rfl,hx1⟩)
    |(go_at_call 107;refine (zba (HS.out _ hx1)).mono ?_;rw [hPA.out];rintro e w2 ⟨rfl,hx⟩)
    |(go_at_call 106;refine (zaP t u _ ht hu).mono ?_;rw [Hi.out];rintro e w3 ⟨rfl,rfl⟩))
   go_ret
   exact⟨zk (by rw [hr.out];rfl),hx1.trans hx⟩
  ·have Hi:=za (show (decide (t.size≤50000)&&zdJ t u)=true from hi)
   have hwd:=za (zaN hi)
   rw [hi,Bool.true_and] at hr
   clear hi
   go_enter Tryz.func42,Tryz.ntmps42
   go_wp2_with (first
    |(go_at_call 105;refine (zaC (HS.out _ (Ext.refl _))).mono ?_;rw [Hp.out];rintro e w1 ⟨rfl,hx1⟩)
    |(go_at_call 107;refine (zba (HS.out _ hx1)).mono ?_;rw [hPA.out];rintro e w2 ⟨rfl,hx⟩)
    |(go_at_call 106;refine (zaP t u _ ht hu).mono ?_;rw [Hi.out];rintro e w3 ⟨rfl,rfl⟩))
   go_loopw [6,19] (fun _ i wr=>∃ k:Nat,k≤n∧i=.int .i64 k∧Hid ((ss.take k).all (fun s=>zeb s (zbd t s.al.toNat) != 0)=true)∧Ext w wr) (fun _ i _=>n - (intOf i).toNat)
   case atStart=>exact⟨0,Nat.zero_le _,rfl,rfl,hx1.trans hx⟩
   case round =>
    clear hx hx1
    obtain⟨k,hk,rfl,hall,hxr⟩:=hrel
    by_cases hlt:k<n
    ·obtain⟨b,o,s,B,q,d,rfl,_,_,hs,c0,c1,c2,hsy⟩:=(HS.out wr hxr).sys hlt
     obtain⟨ha0,ha1⟩:=zP (hv.out s (List.mem_of_getElem? hs.out))
     obtain⟨al,hal⟩:∃ al:Nat,Hid (s.al=al):=⟨s.al.toNat,by unfold Hid;omega⟩
     have hal6:al≤63:=by have:=hal.out;omega
     have hto:s.al.toNat=al:=by have:=hal.out;omega
     have hsz2:=Nat.le_trans (zfu t al) ht
     have HR:=za (fun W=>zeY (w:=W) hwd.out hal6)
     have HC:=za (fun W (hW:Ext wr W)=>zhH (c:=d) (hsy.ext hW) (HT.out W (hxr.trans hW)) hsz2)
     rw [hal.out] at c0 HC
     have hN:=za (fun hb=>all_next (f:=fun s=>zeb s (zbd t s.al.toNat) != 0) hs.out hall.out hb)
     have hF:=za (fun hb=>all_not (f:=fun s=>zeb s (zbd t s.al.toNat) != 0) hs.out hb)
     simp only [hto] at hN hF
     clear hto hsz2 hsy ha0 ha1 hall
     generalize zbd t al=t' at *
     go_upto_region 6 with fail
     have hw5:Ext wr (wr.alloc (.cells #[.int .i64 al,.int .i64 s.st,.slice B q d] 38)):=(Ext.refl wr).alloc _
     have b5:=Blk.new wr 38 #[.int .i64 al,.int .i64 s.st,.slice B q d]
     generalize wr.alloc (.cells #[.int .i64 al,.int .i64 s.st,.slice B q d] 38)=w5 at *
     have c5:=b5.cells
     have hww:=Ext.refl w5
     refine uR (fun X=>Ext w5 X) [5] (zw.of [0,1,2,3,4,5,6]) ?_
     refine uQ ?_
     (refine zd rfl rfl rfl (fun K hK=>?_);go_simp)
     refine (HR.out _).mono ?_
     rintro e w' ⟨rfl,hx1⟩
     have hx2:=hww.drew.trans hx1
     refine hK.out _ _ hx2 ?_
     refine pT ?_
     (refine zb rfl rfl rfl rfl (fun K hK=>?_))
     go_simp
     refine (HC.out _ (hw5.trans hx2)).mono ?_
     rintro e w6 ⟨rfl,hx5⟩
     refine hK.out _ _ ?_
     refine pT ?_
     refine uQ ?_
     refine ze ?_
     have hx6:=hw5.trans (hx2.trans hx5)
     exact yK08a11
    ·exact yK08a12
end
theorem union_le14 {ss:List Sys}(h:zE ss=true):zS ss≤63:=by
 have hv:∀ s∈ss,zl s=true:=by
  unfold zE at h
  simp only [Bool.and_eq_true,List.all_eq_true] at h
  exact h.2.2
 have:∀ n,zS (ss.take n)≤63:=by
  intro n
  induction n with
  |zero=>simp [zS]
  |succ n ih =>
   rcases Nat.lt_or_ge n ss.length with h1|h1
   ·rw [zbW (List.getElem?_eq_getElem h1)]
    have:=zP (hv _ (List.getElem_mem h1))
    have:=Nat.or_lt_two_pow (n:=6) (x:=zS (ss.take n)) (y:=ss[n].al.toNat) (by omega) (by omega)
    omega
   ·rw [List.take_of_length_le (by omega)]
    rw [List.take_of_length_le h1] at ih
    exact ih
 have h2:=this ss.length
 rwa [List.take_length] at h2
theorem partsA_cases (ss:List Sys):(∃ a:Nat,zaF ss=(a:Int)∧a<64)∨zaF ss = -1:=by
 unfold zaF
 cases h:zE ss
 ·exact .inr rfl
 ·exact .inl ⟨zS ss,rfl,by have:=union_le14 h;omega⟩
def RetSd (R M L:Nat) (w:World) (e:Ending) (w':World):Prop:=∃ x:ByteArray,e=.returned (.string x)∧x.size≤L∧Rd w' R M∧Dr R w w'
theorem zey.dr {w w':World} {R lo hi n:Nat} {A:Option Addr} {ss:List Sys}(h:zey w lo hi A n ss)(hd:Dr R w w')(hl:R<lo):zey w' lo hi A n ss:=by
 obtain⟨e,cells,hr,hx⟩:=h
 refine⟨e,cells,hr.dr hd hl,fun k s hs=>?_⟩
 obtain⟨B,m,c,h0,h1,h2,h3⟩:=hx k s hs
 exact⟨B,m,c,h0,h1,h2,h3.1,h3.2.dr hd hl⟩
theorem spec_l1Word {R M a q:Nat} {w:World}(h:Rd w R M)(hM:M≤900000000)(ha:a<64)(hq:q≤1000) :
  Calls Tryz.prog 179 #[.pointer (some ⟨R,0,none⟩),.int .i64 a,.int .i64 q] w (RetSd R (M+q+2) q w):=by
 have hRl:=h.lt
 go_enter Tryz.func179,Tryz.ntmps179
 go_wp2_with fail
 refine (zV a (by unfold Sm;omega) _).mono ?_
 rintro e w1 ⟨B,d,rfl,ziv,hx1⟩
 have hl6:=zC a 6
 have hlm:=za (fun k (hk:k∈letters a 6)=>(zbT.1 hk).1)
 have hrd:=(Reads.of_own ziv)
 have hr1:=h.ext hx1
 clear ziv h
 generalize letters a 6=ls at *
 go_wp2_with fail
 refine (zx hr1 (by omega)).mono ?_
 rintro e w2 ⟨k0,rfl,hk0,-,hr2,hd2⟩
 have hk0q:k0≤q:=by have:=hk0 (by omega);omega
 have hrd2:=hrd.dr hd2 hRl
 have hw2:Dr R w w2:=hx1.dr.trans hd2
 have hst:Hid ((⟨#[]⟩:ByteArray).size+k0≤q):=za (by show 0+k0≤q;omega)
 clear hk0 hrd hr1 hd2 hx1
 go_wp2_with fail
 go_loopw [8,9] (fun v i wr=>∃ (x:ByteArray) (j:Nat),v=.string x∧i=.int .i64 j∧j≤k0∧Hid (x.size+j≤q)∧Rd wr R (M+1+(k0 - j))∧Dr R w2 wr) (fun _ i _=>(intOf i).toNat)
 case atStart=>exact⟨_,k0,rfl,rfl,Nat.le_refl _,hst,hr2.more (by omega),Dr.refl _ _⟩
 case round =>
  clear hst
  obtain⟨x,j,rfl,rfl,hj,hxj,hr,hd⟩:=hrel
  by_cases h0:0<j∧0<ls.length
  ·obtain⟨h0,h1⟩:=h0
   have h0':(j:Int)>0:=by omega
   have h1':(ls.length:Int)>0:=by omega
   go_wp2_with fail
   refine (zx (n:=ls.length) hr (by omega)).mono ?_
   rintro e w3 ⟨y,rfl,hy,-,hr3,hd3⟩
   have hyl:y<ls.length:=by have:=hy (by omega);omega
   obtain⟨ad,l,rfl,_,_,hl,hlc⟩:=((hrd2.dr hd hRl).dr hd3 hRl).nat hyl
   have hl6':=hlm.out l (List.mem_of_getElem? hl.out)
   clear hy
   go_wp2_with fail
   refine (zdq (l:=(l:Int)) (by omega) (by omega)).mono ?_
   rintro e w4 ⟨t,rfl,ht,hx4⟩
   have hst:x.size+t.size≤5000:=by have:=hxj.out;omega
   go_wp2_with fail
   go_roundw
   case rel=>exact⟨_,j - 1,rfl,by go_num,by omega,za (by rw [ByteArray.size_append];have:=hxj.out;omega),(hr3.ext hx4).more (by omega),(hd.trans hd3).ext hx4⟩
   case measure=>simp [intOf];omega
  ·by_cases h1:0<j
   ·have h0':(j:Int)>0:=by omega
    have h2:ls.length=0:=by omega
    have h2':¬ ((ls.length:Int)>0):=by omega
    go_wp2_with fail
    go_ret
    exact⟨x,rfl,by have:=hxj.out;omega,hr.more (by omega),hw2.trans hd⟩
   ·obtain rfl:j=0:=by omega
    go_wp2_with fail
    go_ret
    exact⟨x,rfl,by have:=hxj.out;omega,hr.more (by omega),hw2.trans hd⟩
theorem spec_l7Trace {R M q lo hi n c:Nat} {A:Option Addr} {ss:List Sys} {w:World}(h:Rd w R M)(hM:M≤900000000)(hs:zey w lo hi A n ss)(hlo:R<lo)(hq:q≤1000) :
  Calls Tryz.prog 178 #[.pointer (some ⟨R,0,none⟩),.slice A n c,.int .i64 q] w (RetSd R (M+2*q+2) q w):=by
 have hRl:=h.lt
 have HS:=za (fun W (hW:Dr R w W)=>hs.dr hW hlo)
 have HP:=za (zac (c:=c) hs)
 have hpc:=za (partsA_cases ss)
 clear hs
 go_enter Tryz.func178,Tryz.ntmps178
 go_wp2_with fail
 refine HP.out.mono ?_
 generalize zaF ss=pa at *
 rintro e w1 ⟨rfl,hx1⟩
 have hr1:=h.ext hx1
 clear h HP
 go_wp2_with fail
 refine (zx hr1 (by omega)).mono ?_
 rintro e w2 ⟨k0,rfl,hk0,-,hr2,hd2⟩
 have hk0q:k0≤q:=by have:=hk0 (by omega);omega
 have hw2:Dr R w w2:=hx1.dr.trans hd2
 have hst:Hid ((⟨#[]⟩:ByteArray).size+k0≤q):=za (by show 0+k0≤q;omega)
 clear hk0 hr1 hd2 hx1
 go_wp2_with fail
 go_loopw [8,9,10,11,12,13] (fun v i _ _ _ _ wr=>∃ (x:ByteArray) (j:Nat),v=.string x∧i=.int .i64 j∧j≤k0∧Hid (x.size+j≤q)∧Rd wr R (M+1+(k0 - j))∧Dr R w2 wr) (fun _ i _ _ _ _ _=>(intOf i).toNat)
 case atStart=>exact⟨_,k0,rfl,rfl,Nat.le_refl _,hst,hr2.more (by omega),Dr.refl _ _⟩
 case round =>
  clear hst
  obtain⟨x,j,rfl,rfl,hj,hxj,hr,hd⟩:=hrel
  by_cases h0:0<j∧pa>0
  ·obtain⟨h0,h1⟩:=h0
   have h0':(j:Int)>0:=by omega
   obtain⟨a,hpa,ha⟩:∃ a:Nat,pa=(a:Int)∧a<64:=by
    rcases hpc.out with h|h
    ·exact h
    ·omega
   have h1':(a:Int)>0:=by omega
   subst hpa
   go_wp2_with fail
   refine (zV a (by unfold Sm;omega) _).mono ?_
   rintro e w3 ⟨B,d,rfl,zix,hx3⟩
   have hl6:=zC a 6
   have hlm:=za (fun k (hk:k∈letters a 6)=>(zbT.1 hk).1)
   have hrd:=(Reads.of_own zix)
   have hRr:=hr.lt
   clear zix
   generalize letters a 6=ls at *
   go_wp2_with fail
   refine (zx (n:=ls.length) (hr.ext hx3) (by omega)).mono ?_
   rintro e w4 ⟨y,rfl,hy,hy0,hr4,hd4⟩
   have hrd4:=hrd.dr hd4 hRr
   have hd04:Dr R w2 w4:=(hd.ext hx3).trans hd4
   have hyl:y≤6:=by
    rcases Nat.eq_zero_or_pos ls.length with h|h
    ·have:=hy0 (by omega);omega
    ·have:=hy (by omega);omega
   clear hy hy0 hrd hr hx3
   go_wp2_with fail
   go_loopw [8,12,13] (fun v iv _ wr=>∃ (i:Nat),v=.string x∧iv=.int .i64 i∧i≤ls.length∧Ext w4 wr) (fun _ iv _ _=>ls.length - (intOf iv).toNat)
   case atStart=>exact⟨0,rfl,rfl,Nat.zero_le _,Ext.refl _⟩
   case round =>
    obtain⟨i,rfl,rfl,hi,hxr⟩:=hrel
    by_cases hlt:i<ls.length
    ·have tm:((y:Int)+(i:Int)).tmod (ls.length:Int)=(((y+i) % ls.length:Nat):Int):=by rw [← Int.natCast_add];rfl
     have hml:(y+i) % ls.length<ls.length:=Nat.mod_lt _ (by omega)
     generalize (y+i) % ls.length=z at *
     obtain⟨ad,l,rfl,_,_,hl,hlc⟩:=(hrd4.ext hxr).nat hml
     have hl6':=hlm.out l (List.mem_of_getElem? hl.out)
     go_wp2_with fail
     refine (zdq (l:=(l:Int)) (by omega) (by omega)).mono ?_
     rintro e w5 ⟨t,rfl,ht,hx5⟩
     have hst:x.size+t.size≤5000:=by have:=hxj.out;omega
     have hxt:(x++t).size≤x.size+1:=by rw [ByteArray.size_append];omega
     go_wp2_with fail
     refine (zcY (t:=x++t) (HS.out _ (((hw2.trans hd04).ext hxr).ext hx5)) (by rw [ByteArray.size_append];omega)).mono ?_
     generalize zgI ss (x++t)=b at *
     rintro e w6 ⟨rfl,hx6⟩
     have hx46:Ext w4 w6:=(hxr.trans hx5).trans hx6
     cases b
     ·go_wp2_with fail
      go_roundw
      case rel=>exact⟨i+1,rfl,by go_num,by omega,hx46⟩
      case measure=>simp [intOf];omega
     ·go_wp2_with fail
      go_roundw
      case rel=>exact⟨x++t,j - 1,rfl,by go_num,by omega,za (by have:=hxj.out;omega),(hr4.ext hx46).more (by omega),hd04.ext hx46⟩
      case measure=>simp [intOf];omega
    ·obtain rfl:i=ls.length:=by omega
     go_wp2_with fail
     go_roundw
     case rel=>exact⟨x,j - 1,rfl,by go_num,by omega,za (by have:=hxj.out;omega),(hr4.ext hxr).more (by omega),hd04.ext hxr⟩
     case measure=>simp [intOf];omega
  ·by_cases h1:0<j
   ·have h0':(j:Int)>0:=by omega
    have h2:¬ (pa>0):=by omega
    go_wp2_with fail
    go_ret
    exact⟨x,rfl,by have:=hxj.out;omega,hr.more (by omega),hw2.trans hd⟩
   ·obtain rfl:j=0:=by omega
    go_wp2_with fail
    go_ret
    exact⟨x,rfl,by have:=hxj.out;omega,hr.more (by omega),hw2.trans hd⟩
end Go.Proofs.YtmjaepibdpfblaaGreatDoor
