/- impl.firstBr -/
import Derived.Test.YtcfchopfijalpaaGreatDoorC04
import Derived.Test.YtcfchopfijalpaaGreatDoorC03
import Derived.Test.YtcfchopfijalpaaGreatDoorC02
import Derived.OwnWalk
set_option maxHeartbeats 8000000
set_option maxRecDepth 100000
namespace Go.Proofs.YtcfchopfijalpaaGreatDoor
open Go Go.RowKit
theorem yC05d1 {P:Prop}(h:P:=by
 have Kh10:=h10.cell 0
 have Zh10:=h10.frozen 0
 refine zb fun K hK=>?_
 go_simp
 have hx2:=hx0.frm (Frm.setCell w23 g10 0 (.slice UA a.next.length uc)) (fun k hk e=>by have:=hGh10;omega)
 have hA2:=hA.set h10 (by decide) (.slice UA a.next.length uc)
 have hP2:=hP.set h10 (by decide) (.slice UA a.next.length uc)
 have h102:Blk (w23.setCell ⟨g10,0,none⟩ (.slice UA a.next.length uc)) g10 177 #[.slice UA a.next.length uc]:=by simpa using h10.set_ 0 (.slice UA a.next.length uc)
 have h112:=h11.far (p:=⟨g10,0,none⟩) (by first|exact hne|exact hne.symm) (.slice UA a.next.length uc)
 refine hK.out _ _ ?_
 refine pT ?_
 clear hA hP h10 h11 Kh10 Zh10 hx0
 generalize w23.setCell ⟨g10,0,none⟩ (.slice UA a.next.length uc)=w24 at *
 have hA:=hA2;have hP:=hP2;have h10:=h102;have h11:=h112;have hx0:=hx2
 clear hA2 hP2 h102 h112 hx2
 have Kh11:=h11.cell 0
 have Zh11:=h11.frozen 0
 refine zb fun K hK=>?_
 go_simp
 have hx2:=hx0.frm (Frm.setCell w24 g11 0 (.slice RA p.next.length rc)) (fun k hk e=>by have:=hGh11;omega)
 have hA2:=hA.set h11 (by decide) (.slice RA p.next.length rc)
 have hP2:=hP.set h11 (by decide) (.slice RA p.next.length rc)
 have h112:Blk (w24.setCell ⟨g11,0,none⟩ (.slice RA p.next.length rc)) g11 177 #[.slice RA p.next.length rc]:=by simpa using h11.set_ 0 (.slice RA p.next.length rc)
 have h102:=h10.far (p:=⟨g11,0,none⟩) (by first|exact hne|exact hne.symm) (.slice RA p.next.length rc)
 refine hK.out _ _ ?_
 refine pT ?_
 clear hA hP h10 h11 Kh11 Zh11 hx0
 generalize w24.setCell ⟨g11,0,none⟩ (.slice RA p.next.length rc)=w25 at *
 have hA:=hA2;have hP:=hP2;have h10:=h102;have h11:=h112;have hx0:=hx2
 clear hA2 hP2 h102 h112 hx2
 refine zf ?_
 go_wp2_with fail
 go_meet
 exact⟨g10,g11,UA,RA,uc,rc,rfl,rfl,hx0,h10,h11,hA,hP⟩
 ):P:=h
theorem yC05c1 {P:Prop}(h:P:=by
 refine zb fun K hK=>?_
 go_simp
 refine (hTP.out _ hx0).mono ?_
 rintro e w23 ⟨RA,rc,rfl,hP,hx1⟩
 replace hx0:=hx0.trans hx1
 replace h10:=h10.ext hx1
 replace h11:=h11.ext hx1
 replace hA:=hA.ext hx1
 clear hx1
 refine hK.out _ _ ?_
 refine pT ?_
 exact yC05d1
 ):P:=h
theorem yC05b1 {P:Prop}(h:P:=by
 refine ze fun K hK=>?_;go_simp
 refine (hTA.out _ hx0).mono ?_
 rintro e w22 ⟨UA,uc,rfl,hA,hx1⟩
 replace hx0:=hx0.trans hx1
 replace h10:=h10.ext hx1
 replace h11:=h11.ext hx1
 clear hx1
 refine hK.out _ _ hx0 ?_
 refine pT ?_
 exact yC05c1
 ):P:=h
theorem yC05c2 {P:Prop}(h:P:=by
 exact yC05d1
 ):P:=h
theorem yC05b3 {P:Prop}(h:P:=by
 refine ze fun K hK=>?_;go_simp
 have hne:=Nat.ne_of_lt h11.lt
 have hGh10:=hx0.size
 have hx1:=(Ext.refl w22).alloc (.cells #[.slice none 0 0] 177)
 replace hx0:=hx0.trans hx1
 replace h11:=h11.ext hx1
 replace hA:=hA.ext hx1
 replace hP:=hP.ext hx1
 clear hx1
 have h10:=Blk.new w22 177 #[.slice none 0 0]
 refine hK.out _ _ hx0 ?_
 refine pT ?_
 generalize w22.alloc (.cells #[.slice none 0 0] 177)=w23 at *
 generalize w22.heap.size=g10 at *
 exact yC05c2
 ):P:=h
theorem yC05b4 {P:Prop}(h:P:=by
 exact yC05c1
 ):P:=h
def zbs (a p:Aut) (x:Nat):Bool:=zcg a (x / p.next.length % a.next.length)&&!zcg p (x % p.next.length)
theorem yC05a1 {P:Prop}(h:P:=by
 refine zm (fun K hK=>?_) (fun K hK=>?_)
 ·go_simp
  refine (hTA.out _ hx0).mono ?_
  rintro e w21 ⟨UA,uc,rfl,hA,hx1⟩
  replace hx0:=hx0.trans hx1
  replace h11:=h11.ext hx1
  clear hx1
  refine hK.out _ _ hx0 ?_
  refine pT ?_
  refine zm (fun K hK=>?_) (fun K hK=>?_)
  ·go_simp
   refine (hTP.out _ hx0).mono ?_
   rintro e w22 ⟨RA,rc,rfl,hP,hx1⟩
   replace hx0:=hx0.trans hx1
   replace h11:=h11.ext hx1
   replace hA:=hA.ext hx1
   clear hx1
   refine hK.out _ _ hx0 ?_
   refine pT ?_
   exact yC05b3
  ·go_simp
   have hne:=Nat.ne_of_lt h11.lt
   have hGh10:=hx0.size
   have hx1:=(Ext.refl w21).alloc (.cells #[.slice none 0 0] 177)
   replace hx0:=hx0.trans hx1
   replace h11:=h11.ext hx1
   replace hA:=hA.ext hx1
   clear hx1
   have h10:=Blk.new w21 177 #[.slice none 0 0]
   refine hK.out _ _ hx0 ?_
   refine pT ?_
   generalize w21.alloc (.cells #[.slice none 0 0] 177)=w22 at *
   generalize w21.heap.size=g10 at *
   exact yC05b4
 ·go_simp
  have hne:=Nat.ne_of_lt h11.lt
  have hGh10:=hx0.size
  have hx1:=(Ext.refl w20).alloc (.cells #[.slice none 0 0] 177)
  replace hx0:=hx0.trans hx1
  replace h11:=h11.ext hx1
  clear hx1
  have h10:=Blk.new w20 177 #[.slice none 0 0]
  refine hK.out _ _ hx0 ?_
  refine pT ?_
  generalize w20.alloc (.cells #[.slice none 0 0] 177)=w21 at *
  generalize w20.heap.size=g10 at *
  exact yC05b1
 ):P:=h
theorem yC05b2 {P:Prop}(h:P:=by
 refine ze fun K hK=>?_;go_simp
 have hne:=Nat.ne_of_lt h10.lt
 have hGh11:=hx0.size
 have hx1:=(Ext.refl w22).alloc (.cells #[.slice none 0 0] 177)
 replace hx0:=hx0.trans hx1
 replace h10:=h10.ext hx1
 replace hA:=hA.ext hx1
 replace hP:=hP.ext hx1
 clear hx1
 have h11:=Blk.new w22 177 #[.slice none 0 0]
 refine hK.out _ _ hx0 ?_
 refine pT ?_
 generalize w22.alloc (.cells #[.slice none 0 0] 177)=w23 at *
 generalize w22.heap.size=g11 at *
 exact yC05c2
 ):P:=h
theorem yC05a2 {P:Prop}(h:P:=by
 refine zm (fun K hK=>?_) (fun K hK=>?_)
 ·go_simp
  refine (hTA.out _ hx0).mono ?_
  rintro e w21 ⟨UA,uc,rfl,hA,hx1⟩
  replace hx0:=hx0.trans hx1
  replace h10:=h10.ext hx1
  clear hx1
  refine hK.out _ _ hx0 ?_
  refine pT ?_
  refine zm (fun K hK=>?_) (fun K hK=>?_)
  ·go_simp
   refine (hTP.out _ hx0).mono ?_
   rintro e w22 ⟨RA,rc,rfl,hP,hx1⟩
   replace hx0:=hx0.trans hx1
   replace h10:=h10.ext hx1
   replace hA:=hA.ext hx1
   clear hx1
   refine hK.out _ _ hx0 ?_
   refine pT ?_
   exact yC05b2
  ·go_simp
   have hne:=Nat.ne_of_lt h10.lt
   have hGh11:=hx0.size
   have hx1:=(Ext.refl w21).alloc (.cells #[.slice none 0 0] 177)
   replace hx0:=hx0.trans hx1
   replace h10:=h10.ext hx1
   replace hA:=hA.ext hx1
   clear hx1
   have h11:=Blk.new w21 177 #[.slice none 0 0]
   refine hK.out _ _ hx0 ?_
   refine pT ?_
   generalize w21.alloc (.cells #[.slice none 0 0] 177)=w22 at *
   generalize w21.heap.size=g11 at *
   exact yC05b4
 ·go_simp
  have hne:=Nat.ne_of_lt h10.lt
  have hGh11:=hx0.size
  have hx1:=(Ext.refl w20).alloc (.cells #[.slice none 0 0] 177)
  replace hx0:=hx0.trans hx1
  replace h10:=h10.ext hx1
  clear hx1
  have h11:=Blk.new w20 177 #[.slice none 0 0]
  refine hK.out _ _ hx0 ?_
  refine pT ?_
  generalize w20.alloc (.cells #[.slice none 0 0] 177)=w21 at *
  generalize w20.heap.size=g11 at *
  exact yC05b1
 ):P:=h
theorem yC05c3 {P:Prop}(h:P:=by
 refine zb fun K hK=>?_
 go_simp
 refine (key.out _ hx0 _ _ _ _ _ hI hIL).mono ?_
 rintro e w23 ⟨hx1,hcase⟩
 have hx2:=hw9.trans (hx0.trans hx1)
 rcases hcase with ⟨v,rfl,hF⟩|⟨rfl,hF⟩
 ·have hres:=za (show zJ w (zbC ss a p) [0] (zbs a p) (letters (U|||al) 6) _ w23 from ⟨hx2,Or.inl ⟨v,rfl,hF⟩⟩)
  refine hK.out _ _ ?_
  refine pT ?_
  refine uQ ?_
  refine zf ?_
  go_wp2_with fail
  go_ret2
  exact hres.out
 ·have hres:=za (show zJ w (zbC ss a p) [0] (zbs a p) (letters (U|||al) 6) _ w23 from ⟨hx2,Or.inr ⟨rfl,hF⟩⟩)
  refine hK.out _ _ ?_
  refine pT ?_
  refine uQ ?_
  refine zf ?_
  go_wp2_with fail
  go_ret2
  exact hres.out
 ):P:=h
theorem yC05b6 {P:Prop}(h:P:=by
 exact yC05c3
 ):P:=h
theorem yC05a3 {P:Prop}(h:P:=by
 refine hK.out _ _ hx0 ?_
 refine pT ?_
 refine uQ ?_
 refine zm (fun K hK=>?_) (fun K hK=>?_)
 ·go_simp
  have hI:=zcL (x:=0) (Blk.new w20 3 #[.int .i64 ((0:Nat):Int)])
  have hx1:=(Ext.refl w20).alloc (.cells #[.int .i64 ((0:Nat):Int)] 3)
  replace hx0:=hx0.trans hx1
  clear hx1
  refine hK.out _ _ hx0 ?_
  refine pT ?_
  generalize w20.alloc (.cells #[.int .i64 ((0:Nat):Int)] 3)=w21 at *
  generalize w20.heap.size=g1 at *
  refine ze fun K hK=>?_;go_simp
  refine (hLT.out w21).mono ?_
  rintro e w22 ⟨AL,cL,rfl,hownL,hx1⟩
  have hIL:=zad.own hownL
  clear hownL
  replace hx0:=hx0.trans hx1
  replace hI:=hI.ext hx1
  clear hx1
  refine hK.out _ _ hx0 ?_
  refine pT ?_
  exact yC05b6
 ·go_simp
  refine (hLT.out w20).mono ?_
  rintro e w21 ⟨AL,cL,rfl,hownL,hx1⟩
  have hIL:=zad.own hownL
  clear hownL
  replace hx0:=hx0.trans hx1
  clear hx1
  refine hK.out _ _ hx0 ?_
  refine pT ?_
  refine ze fun K hK=>?_;go_simp
  have hI:=zcL (x:=0) (Blk.new w21 3 #[.int .i64 ((0:Nat):Int)])
  have hx1:=(Ext.refl w21).alloc (.cells #[.int .i64 ((0:Nat):Int)] 3)
  replace hx0:=hx0.trans hx1
  replace hIL:=hIL.ext hx1
  clear hx1
  refine hK.out _ _ hx0 ?_
  refine pT ?_
  generalize w21.alloc (.cells #[.int .i64 ((0:Nat):Int)] 3)=w22 at *
  generalize w21.heap.size=g1 at *
  exact yC05b6
 ):P:=h
theorem yC05a4 {P:Prop}(h:P:=by
 refine ze fun K hK=>?_;go_simp
 refine hK.out _ _ hx0 ?_
 refine pT ?_
 refine uQ ?_
 exact yC05b1
 ):P:=h
theorem yC05a5 {P:Prop}(h:P:=by
 exact yC05b2
 ):P:=h
theorem yC05a6 {P:Prop}(h:P:=by
 exact yC05b3
 ):P:=h
theorem yC05a7 {P:Prop}(h:P:=by
 exact yC05b4
 ):P:=h
theorem yC05a8 {P:Prop}(h:P:=by
 have Kh12:=h12.cell 0
 have Zh12:=h12.frozen 0
 refine ze fun K hK=>?_;go_simp
 have hx2:=hx0.frm (Frm.setCell w21 g12 0 (.int .i64 (a.next.length:Nat))) (fun k hk e=>by have:=hGh12;omega)
 have h122:Blk (w21.setCell ⟨g12,0,none⟩ (.int .i64 (a.next.length:Nat))) g12 3 #[.int .i64 (a.next.length:Nat)]:=by simpa using h12.set_ 0 (.int .i64 (a.next.length:Nat))
 have h132:=h13.far (p:=⟨g12,0,none⟩) (by first|exact hne|exact hne.symm) (.int .i64 (a.next.length:Nat))
 refine hK.out _ _ hx2 ?_
 refine pT ?_
 clear h12 h13 Kh12 Zh12 hx0
 generalize w21.setCell ⟨g12,0,none⟩ (.int .i64 (a.next.length:Nat))=w22 at *
 have h12:=h122;have h13:=h132;have hx0:=hx2
 clear h122 h132 hx2
 have Kh13:=h13.cell 0
 have Zh13:=h13.frozen 0
 refine zb fun K hK=>?_
 go_simp
 have hx2:=hx0.frm (Frm.setCell w22 g13 0 (.int .i64 (p.next.length:Nat))) (fun k hk e=>by have:=hGh13;omega)
 have h132:Blk (w22.setCell ⟨g13,0,none⟩ (.int .i64 (p.next.length:Nat))) g13 3 #[.int .i64 (p.next.length:Nat)]:=by simpa using h13.set_ 0 (.int .i64 (p.next.length:Nat))
 have h122:=h12.far (p:=⟨g13,0,none⟩) (by first|exact hne|exact hne.symm) (.int .i64 (p.next.length:Nat))
 refine hK.out _ _ ?_
 refine pT ?_
 clear h12 h13 Kh13 Zh13 hx0
 generalize w22.setCell ⟨g13,0,none⟩ (.int .i64 (p.next.length:Nat))=w23 at *
 have h12:=h122;have h13:=h132;have hx0:=hx2
 clear h122 h132 hx2
 refine zf ?_
 go_wp2_with fail
 go_meet
 exact⟨g12,g13,rfl,rfl,hx0,h12,h13⟩
 ):P:=h
theorem yC05b5 {P:Prop}(h:P:=by
 refine hK.out _ _ hx0 ?_
 refine pT ?_
 refine uQ ?_
 refine ze fun K hK=>?_;go_simp
 refine (hLT.out w21).mono ?_
 rintro e w22 ⟨AL,cL,rfl,hownL,hx1⟩
 have hIL:=zad.own hownL
 clear hownL
 replace hx0:=hx0.trans hx1
 replace hI:=hI.ext hx1
 clear hx1
 refine hK.out _ _ hx0 ?_
 refine pT ?_
 exact yC05c3
 ):P:=h
theorem yC05a9 {P:Prop}(h:P:=by
 refine ze fun K hK=>?_;go_simp
 refine (hSZ.out _ hx0).mono ?_
 rintro e w21 ⟨rfl,hx1⟩
 replace hx0:=hx0.trans hx1
 replace hI:=hI.ext hx1
 clear hx1
 exact yC05b5
 ):P:=h
theorem yC05a10 {P:Prop}(h:P:=by
 refine ze fun K hK=>?_;go_simp
 exact yC05b5
 ):P:=h
theorem zfO {lo hi k c ga:Nat} {A:Option Addr} {ss:List Sys} {B:Option Addr} {m1 d1:Nat} {B':Option Addr} {m1' d1' lo1 hi1:Nat} {C:Option Addr} {m2 d2:Nat} {C':Option Addr} {m2' d2' lo2 hi2:Nat} {a p:Aut} {w:World}
  (h:zha w lo hi A k ss) (hap:zA ss=true) (hT:Tab w) (hga:Blk w ga 31 #[.int .i64 a.al,.slice B m1 d1,.slice B' m1' d1']) (hA0:zC w lo1 hi1 B m1 B' m1' a) (hv:zk a=true) (hP0:zC w lo2 hi2 C m2 C' m2' p) (hp:zk p=true) :
  Calls Tryz.prog 102 #[.slice A k c,.pointer (some ⟨ga,0,none⟩),.agg #[.int .i64 p.al,.slice C m2 d2,.slice C' m2' d2']] w (zJ w (zbC ss a p) [0] (zbs a p) (letters (zD ss|||a.al.toNat) 6)):=by
 have hsv:∀ s∈ss,zn s=true:=by
  unfold zA at hap
  simp only [Bool.and_eq_true,List.all_eq_true] at hap
  exact hap.2.2
 have hk3:k≤3:=by
  unfold zA at hap
  simp only [Bool.and_eq_true,decide_eq_true_eq] at hap
  have:=h.1
  omega
 have hsl:=za (fun (s:Sys) (hs:s∈ss)=>zbQ (hsv s hs))
 have hf16:=za (fun (s:Sys) (hs:s∈ss)=>show Few 16 s.edges from by
  obtain⟨q,_,_,hq,hf⟩:=zdQ (hsv s hs)
  exact fun e he=>by have:=hf e he;omega)
 have hU:zD ss≤63:=by
  have key:∀ l:List Sys,(∀ s∈l,zn s=true)→zD l≤63:=by
   intro l hl
   have:∀ n,zD (l.take n)≤63:=by
    intro n
    induction n with
    |zero=>simp [zD]
    |succ n ih =>
     rcases Nat.lt_or_ge n l.length with h1|h1
     ·rw [zcD (List.getElem?_eq_getElem h1)]
      have:=zN (hl _ (List.getElem_mem h1))
      have:=Nat.or_lt_two_pow (n:=6) (x:=zD (l.take n)) (y:=l[n].al.toNat) (by omega) (by omega)
      omega
     ·rw [List.take_of_length_le (by omega)]
      rw [List.take_of_length_le h1] at ih
      exact ih
   have h2:=this l.length
   rwa [List.take_length] at h2
  exact key ss hsv
 have hal:=(zl hv).1
 obtain⟨al,hale⟩:∃ al:Nat,Hid (a.al=al):=⟨a.al.toNat,by unfold Hid;omega⟩
 have hal6:al≤63:=by have:=hale.out;omega
 have hpa:=za (show zbI ss=(zD ss:Int) by unfold zbI;rw [hap];rfl)
 have hap3:=za (show a.al.toNat=al by have:=hale.out;omega)
 have hpal:=za (show 0≤p.al∧p.al≤63 from (zl hp).1)
 rw [hap3.out]
 have HS:=za (fun W (hW:Ext w W)=>h.ext hW)
 have HT:=za (fun W (hW:Ext w W)=>hT.ext hW)
 have HA:=za (fun W (hW:Ext w W)=>hA0.ext hW)
 have HP:=za (fun W (hW:Ext w W)=>hP0.ext hW)
 have HGA:=za (fun W (hW:Ext w W)=>hga.ext hW)
 have Hv:=za hv
 have Hp:=za hp
 generalize hUe:zD ss=U at *
 have HU:=za hUe
 clear hUe h hT hA0 hP0 hga hv hp hap hsv hal
 go_enter Tryz.func102,Tryz.ntmps102
 go_upto_region 1 with fail
 have hw2:Ext w ((w.alloc (.cells #[.pointer (some ⟨ga,0,none⟩)] 187)).alloc (.cells #[.int .i64 p.al,.slice C m2 d2,.slice C' m2' d2'] 31)):=((Ext.refl w).alloc _).alloc _
 obtain⟨b4,b5⟩:=zE (Ext.refl ((w.alloc (.cells #[.pointer (some ⟨ga,0,none⟩)] 187)).alloc (.cells #[.int .i64 p.al,.slice C m2 d2,.slice C' m2' d2'] 31)))
 generalize (w.alloc (.cells #[.pointer (some ⟨ga,0,none⟩)] 187)).alloc (.cells #[.int .i64 p.al,.slice C m2 d2,.slice C' m2' d2'] 31)=w2 at *
 go_upto_region 2 with (go_at_call 178;refine (zeU (HS.out _ hw2) hf16.out (by omega)).mono ?_;rintro e w3 ⟨M,dm,rfl,hpt,hx3⟩)
 have hw3:=hw2.trans hx3
 have b8:=Blk.new w3 204 #[.slice A k c,.slice M k dm]
 have hx4:=hx3.alloc (.cells #[.slice A k c,.slice M k dm] 204)
 have hpt4:=hpt.ext ((Ext.refl w3).alloc (.cells #[.slice A k c,.slice M k dm] 204))
 generalize hg8:w3.heap.size=g8 at *
 clear hpt hg8
 generalize w3.alloc (.cells #[.slice A k c,.slice M k dm] 204)=w4 at *
 have hw4:=hw2.trans hx4
 clear hw3 hx3
 go_upto_region 3 with (go_at_call 104;refine (zcH (HS.out _ hw4)).mono ?_;rw [hpa.out];rintro e w5 ⟨rfl,hx5⟩)
 have b45:=b4.ext (hx4.trans hx5)
 have b55:=b5.ext (hx4.trans hx5)
 have b85:=b8.ext hx5
 have hpt5:=hpt4.ext hx5
 have hw5:=hw4.trans hx5
 have k4:=b45.cell 0
 clear hx4 hx5 b4 b5 b8 hpt4 hw2 hw4
 go_upto_region 5 with fail
 clear k4
 have hB4:=za (fun W (hW:Ext w5 W)=>b45.ext hW)
 have hB5:=za (fun W (hW:Ext w5 W)=>b55.ext hW)
 have hB8:=za (fun W (hW:Ext w5 W)=>b85.ext hW)
 have hPT:=za (fun W (hW:Ext w5 W)=>hpt5.ext hW)
 clear b45 b55 b85 hpt5
 have HGA5:=za (fun W (hW:Ext w5 W)=>HGA.out W (hw5.trans hW))
 have HA5:=za (fun W (hW:Ext w5 W)=>HA.out W (hw5.trans hW))
 clear HGA HA
 go_cut [10,11] (fun v10 v11 wx=>∃ (g10 g11:Nat) (UA RA:Option Addr) (uc rc:Nat),v10=.pointer (some ⟨g10,0,none⟩)∧v11=.pointer (some ⟨g11,0,none⟩)∧Ext w5 wx∧Blk wx g10 177 #[.slice UA a.next.length uc]∧Blk wx g11 177 #[.slice RA p.next.length rc]∧TbO wx UA uc a∧TbO wx RA rc p)
 case first =>
  have c4:∀ W,Ext w5 W→W.cell? ⟨w.heap.size,0,none⟩=some (.pointer (some ⟨ga,0,none⟩)):=fun W hW=>by rw [(hB4.out W hW).cell];rfl
  have ca:∀ W,Ext w5 W→∀ j,W.cell? ⟨ga,j,none⟩=#[Value.int .i64 a.al,.slice B m1 d1,.slice B' m1' d1'][j]?:=fun W hW=>(HGA5.out W hW).cell
  have c5:∀ W,Ext w5 W→∀ j,W.cell? ⟨w.heap.size+1,j,none⟩=#[Value.int .i64 p.al,.slice C m2 d2,.slice C' m2' d2'][j]?:=fun W hW=>(hB5.out W hW).cell
  have hTA:=za (fun W (hW:Ext w5 W)=>zcJ (d:=d1) (d':=d1') (HA5.out W hW) Hv.out)
  have hTP:=za (fun W (hW:Ext w5 W)=>zcJ (d:=d2) (d':=d2') (HP.out W (hw5.trans hW)) Hp.out)
  have hww:=Ext.refl w5
  refine uR (fun X=>Ext w5 X) [5,8,9] (zu.app [0,4] (zu.three 1 (zu.app [2] (zu.three 3 (zu.three 5 (zu.two 6 (zu.of [7,8,9]) 7 (zu.of [6,8,9])) 6 (zu.two 5 (zu.of [7,8,9]) 7 (zu.of [5,8,9])) 7 (zu.two 5 (zu.of [6,8,9]) 6 (zu.of [5,8,9]))) 6 (zu.two 3 (zu.two 5 (zu.of [7,8,9]) 7 (zu.of [5,8,9])) 7 (zu.of [3,5,8,9])) 7 (zu.two 3 (zu.two 5 (zu.of [6,8,9]) 6 (zu.of [5,8,9])) 6 (zu.of [3,5,8,9])))) 6 (zu.two 1 (zu.app [2] (zu.two 3 (zu.two 5 (zu.of [7,8,9]) 7 (zu.of [5,8,9])) 7 (zu.of [3,5,8,9]))) 7 (zu.of [1,2,3,5,8,9])) 7 (zu.two 1 (zu.app [2] (zu.two 3 (zu.two 5 (zu.of [6,8,9]) 6 (zu.of [5,8,9])) 6 (zu.of [3,5,8,9]))) 6 (zu.of [1,2,3,5,8,9])))) ?_
  refine uQ ?_
  have hx0:Ext w5 w5.drew:=hww.drew
  generalize w5.drew=wd at *
  refine uQ ?_
  refine zay (fun K hK=>?_) (fun K hK=>?_) (fun K hK=>?_)
  ·go_simp
   refine hK.out _ _ hx0 ?_
   refine pT ?_
   refine uQ ?_
   refine zay (fun K hK=>?_) (fun K hK=>?_) (fun K hK=>?_)
   ·go_simp
    refine (hTA.out _ hx0).mono ?_
    rintro e w20 ⟨UA,uc,rfl,hA,hx1⟩
    replace hx0:=hx0.trans hx1
    clear hx1
    refine hK.out _ _ hx0 ?_
    refine pT ?_
    refine zay (fun K hK=>?_) (fun K hK=>?_) (fun K hK=>?_)
    ·go_simp
     refine (hTP.out _ hx0).mono ?_
     rintro e w21 ⟨RA,rc,rfl,hP,hx1⟩
     replace hx0:=hx0.trans hx1
     replace hA:=hA.ext hx1
     clear hx1
     refine hK.out _ _ hx0 ?_
     refine pT ?_
     refine zm (fun K hK=>?_) (fun K hK=>?_)
     ·go_simp
      have hGh10:=hx0.size
      have hx1:=(Ext.refl w21).alloc (.cells #[.slice none 0 0] 177)
      replace hx0:=hx0.trans hx1
      replace hA:=hA.ext hx1
      replace hP:=hP.ext hx1
      clear hx1
      have h10:=Blk.new w21 177 #[.slice none 0 0]
      refine hK.out _ _ hx0 ?_
      refine pT ?_
      generalize w21.alloc (.cells #[.slice none 0 0] 177)=w22 at *
      generalize w21.heap.size=g10 at *
      exact yC05a5
     ·go_simp
      have hGh11:=hx0.size
      have hx1:=(Ext.refl w21).alloc (.cells #[.slice none 0 0] 177)
      replace hx0:=hx0.trans hx1
      replace hA:=hA.ext hx1
      replace hP:=hP.ext hx1
      clear hx1
      have h11:=Blk.new w21 177 #[.slice none 0 0]
      refine hK.out _ _ hx0 ?_
      refine pT ?_
      generalize w21.alloc (.cells #[.slice none 0 0] 177)=w22 at *
      generalize w21.heap.size=g11 at *
      exact yC05a6
    ·go_simp
     have hGh10:=hx0.size
     have hx1:=(Ext.refl w20).alloc (.cells #[.slice none 0 0] 177)
     replace hx0:=hx0.trans hx1
     replace hA:=hA.ext hx1
     clear hx1
     have h10:=Blk.new w20 177 #[.slice none 0 0]
     refine hK.out _ _ hx0 ?_
     refine pT ?_
     generalize w20.alloc (.cells #[.slice none 0 0] 177)=w21 at *
     generalize w20.heap.size=g10 at *
     refine zm (fun K hK=>?_) (fun K hK=>?_)
     ·go_simp
      refine (hTP.out _ hx0).mono ?_
      rintro e w22 ⟨RA,rc,rfl,hP,hx1⟩
      replace hx0:=hx0.trans hx1
      replace h10:=h10.ext hx1
      replace hA:=hA.ext hx1
      clear hx1
      refine hK.out _ _ hx0 ?_
      refine pT ?_
      exact yC05a5
     ·go_simp
      have hne:=Nat.ne_of_lt h10.lt
      have hGh11:=hx0.size
      have hx1:=(Ext.refl w21).alloc (.cells #[.slice none 0 0] 177)
      replace hx0:=hx0.trans hx1
      replace h10:=h10.ext hx1
      replace hA:=hA.ext hx1
      clear hx1
      have h11:=Blk.new w21 177 #[.slice none 0 0]
      refine hK.out _ _ hx0 ?_
      refine pT ?_
      generalize w21.alloc (.cells #[.slice none 0 0] 177)=w22 at *
      generalize w21.heap.size=g11 at *
      exact yC05a7
    ·go_simp
     have hGh11:=hx0.size
     have hx1:=(Ext.refl w20).alloc (.cells #[.slice none 0 0] 177)
     replace hx0:=hx0.trans hx1
     replace hA:=hA.ext hx1
     clear hx1
     have h11:=Blk.new w20 177 #[.slice none 0 0]
     refine hK.out _ _ hx0 ?_
     refine pT ?_
     generalize w20.alloc (.cells #[.slice none 0 0] 177)=w21 at *
     generalize w20.heap.size=g11 at *
     refine zm (fun K hK=>?_) (fun K hK=>?_)
     ·go_simp
      refine (hTP.out _ hx0).mono ?_
      rintro e w22 ⟨RA,rc,rfl,hP,hx1⟩
      replace hx0:=hx0.trans hx1
      replace h11:=h11.ext hx1
      replace hA:=hA.ext hx1
      clear hx1
      refine hK.out _ _ hx0 ?_
      refine pT ?_
      exact yC05a6
     ·go_simp
      have hne:=Nat.ne_of_lt h11.lt
      have hGh10:=hx0.size
      have hx1:=(Ext.refl w21).alloc (.cells #[.slice none 0 0] 177)
      replace hx0:=hx0.trans hx1
      replace h11:=h11.ext hx1
      replace hA:=hA.ext hx1
      clear hx1
      have h10:=Blk.new w21 177 #[.slice none 0 0]
      refine hK.out _ _ hx0 ?_
      refine pT ?_
      generalize w21.alloc (.cells #[.slice none 0 0] 177)=w22 at *
      generalize w21.heap.size=g10 at *
      exact yC05a7
   ·go_simp
    have hGh10:=hx0.size
    have hx1:=(Ext.refl wd).alloc (.cells #[.slice none 0 0] 177)
    replace hx0:=hx0.trans hx1
    clear hx1
    have h10:=Blk.new wd 177 #[.slice none 0 0]
    refine hK.out _ _ hx0 ?_
    refine pT ?_
    generalize wd.alloc (.cells #[.slice none 0 0] 177)=w20 at *
    generalize wd.heap.size=g10 at *
    exact yC05a2
   ·go_simp
    have hGh11:=hx0.size
    have hx1:=(Ext.refl wd).alloc (.cells #[.slice none 0 0] 177)
    replace hx0:=hx0.trans hx1
    clear hx1
    have h11:=Blk.new wd 177 #[.slice none 0 0]
    refine hK.out _ _ hx0 ?_
    refine pT ?_
    generalize wd.alloc (.cells #[.slice none 0 0] 177)=w20 at *
    generalize wd.heap.size=g11 at *
    exact yC05a1
  ·go_simp
   have hGh10:=hx0.size
   have hx1:=(Ext.refl wd).alloc (.cells #[.slice none 0 0] 177)
   replace hx0:=hx0.trans hx1
   clear hx1
   have h10:=Blk.new wd 177 #[.slice none 0 0]
   refine hK.out _ _ hx0 ?_
   refine pT ?_
   generalize wd.alloc (.cells #[.slice none 0 0] 177)=w20 at *
   generalize wd.heap.size=g10 at *
   refine zm (fun K hK=>?_) (fun K hK=>?_)
   ·go_simp
    refine hK.out _ _ hx0 ?_
    refine pT ?_
    refine uQ ?_
    exact yC05a2
   ·go_simp
    have hne:=Nat.ne_of_lt h10.lt
    have hGh11:=hx0.size
    have hx1:=(Ext.refl w20).alloc (.cells #[.slice none 0 0] 177)
    replace hx0:=hx0.trans hx1
    replace h10:=h10.ext hx1
    clear hx1
    have h11:=Blk.new w20 177 #[.slice none 0 0]
    refine hK.out _ _ hx0 ?_
    refine pT ?_
    generalize w20.alloc (.cells #[.slice none 0 0] 177)=w21 at *
    generalize w20.heap.size=g11 at *
    exact yC05a4
  ·go_simp
   have hGh11:=hx0.size
   have hx1:=(Ext.refl wd).alloc (.cells #[.slice none 0 0] 177)
   replace hx0:=hx0.trans hx1
   clear hx1
   have h11:=Blk.new wd 177 #[.slice none 0 0]
   refine hK.out _ _ hx0 ?_
   refine pT ?_
   generalize wd.alloc (.cells #[.slice none 0 0] 177)=w20 at *
   generalize wd.heap.size=g11 at *
   refine zm (fun K hK=>?_) (fun K hK=>?_)
   ·go_simp
    refine hK.out _ _ hx0 ?_
    refine pT ?_
    refine uQ ?_
    exact yC05a1
   ·go_simp
    have hne:=Nat.ne_of_lt h11.lt
    have hGh10:=hx0.size
    have hx1:=(Ext.refl w20).alloc (.cells #[.slice none 0 0] 177)
    replace hx0:=hx0.trans hx1
    replace h11:=h11.ext hx1
    clear hx1
    have h10:=Blk.new w20 177 #[.slice none 0 0]
    refine hK.out _ _ hx0 ?_
    refine pT ?_
    generalize w20.alloc (.cells #[.slice none 0 0] 177)=w21 at *
    generalize w20.heap.size=g10 at *
    exact yC05a4
 case rest =>
  obtain⟨g10,g11,UA,RA,uc,rc,rfl,rfl,hx6,h10,h11,hA,hP⟩:=hcut
  have hH10:=za (fun W (hW:Ext wc W)=>h10.ext hW)
  have hH11:=za (fun W (hW:Ext wc W)=>h11.ext hW)
  have hw6:=hw5.trans hx6
  go_upto_region 6 with fail
  go_cut [12,13] (fun v12 v13 wx=>∃ (g12 g13:Nat),v12=.pointer (some ⟨g12,0,none⟩)∧v13=.pointer (some ⟨g13,0,none⟩)∧Ext wc wx∧Blk wx g12 3 #[.int .i64 (a.next.length:Nat)]∧Blk wx g13 3 #[.int .i64 (p.next.length:Nat)])
  case first =>
   have c10:∀ W,Ext wc W→W.cell? ⟨g10,0,none⟩=some (.slice UA a.next.length uc):=fun W hW=>by rw [(hH10.out W hW).cell];rfl
   have c11:∀ W,Ext wc W→W.cell? ⟨g11,0,none⟩=some (.slice RA p.next.length rc):=fun W hW=>by rw [(hH11.out W hW).cell];rfl
   have hww:=Ext.refl wc
   clear h10 h11 hA hP
   refine uR (fun X=>Ext wc X) [7] (zu.app [0,1,2,3] (zu.two 4 (zu.of [5,6,7]) 5 (zu.of [4,6,7]))) ?_
   refine uQ ?_
   have hx0:Ext wc wc.drew:=hww.drew
   generalize wc.drew=wd at *
   refine uQ ?_
   refine zm (fun K hK=>?_) (fun K hK=>?_)
   ·go_simp
    have hGh12:=hx0.size
    have hx1:=(Ext.refl wd).alloc (.cells #[.int .i64 0] 3)
    replace hx0:=hx0.trans hx1
    clear hx1
    have h12:=Blk.new wd 3 #[.int .i64 0]
    refine hK.out _ _ hx0 ?_
    refine pT ?_
    generalize wd.alloc (.cells #[.int .i64 0] 3)=w20 at *
    generalize wd.heap.size=g12 at *
    refine ze fun K hK=>?_;go_simp
    have hne:=Nat.ne_of_lt h12.lt
    have hGh13:=hx0.size
    have hx1:=(Ext.refl w20).alloc (.cells #[.int .i64 0] 3)
    replace hx0:=hx0.trans hx1
    replace h12:=h12.ext hx1
    clear hx1
    have h13:=Blk.new w20 3 #[.int .i64 0]
    refine hK.out _ _ hx0 ?_
    refine pT ?_
    generalize w20.alloc (.cells #[.int .i64 0] 3)=w21 at *
    generalize w20.heap.size=g13 at *
    exact yC05a8
   ·go_simp
    have hGh13:=hx0.size
    have hx1:=(Ext.refl wd).alloc (.cells #[.int .i64 0] 3)
    replace hx0:=hx0.trans hx1
    clear hx1
    have h13:=Blk.new wd 3 #[.int .i64 0]
    refine hK.out _ _ hx0 ?_
    refine pT ?_
    generalize wd.alloc (.cells #[.int .i64 0] 3)=w20 at *
    generalize wd.heap.size=g13 at *
    refine ze fun K hK=>?_;go_simp
    have hne:=Nat.ne_of_lt h13.lt
    have hGh12:=hx0.size
    have hx1:=(Ext.refl w20).alloc (.cells #[.int .i64 0] 3)
    replace hx0:=hx0.trans hx1
    replace h13:=h13.ext hx1
    clear hx1
    have h12:=Blk.new w20 3 #[.int .i64 0]
    refine hK.out _ _ hx0 ?_
    refine pT ?_
    generalize w20.alloc (.cells #[.int .i64 0] 3)=w21 at *
    generalize w20.heap.size=g12 at *
    exact yC05a8
  case rest =>
   obtain⟨g12,g13,rfl,rfl,hx7,h12,h13⟩:=hcut
   rename World=>w7
   have hw9:=hw6.trans hx7
   have hC:BCaps w7 g8 g10 g11 g12 g13 A M UA RA k c dm uc rc ss a p:=by
    obtain⟨lo3,hi3,htu⟩:=hA.at_
    obtain⟨lo4,hi4,htr⟩:=hP.at_
    exact⟨hB8.out _ (hx6.trans hx7),h10.ext hx7,h11.ext hx7,h12,h13,⟨_,_,_,_,hPT.out _ (hx6.trans hx7)⟩,⟨lo3,hi3,htu.ext hx7⟩,⟨lo4,hi4,htr.ext hx7⟩⟩
   have hGC:GCaps w7 w.heap.size ga (w.heap.size+1) g12 g13 a p:=⟨hB4.out _ (hx6.trans hx7),⟨B,m1,d1,B',m1',d1',lo1,hi1,HGA5.out _ (hx6.trans hx7),HA5.out _ (hx6.trans hx7)⟩,⟨C,m2,d2,C',m2',d2',lo2,hi2,hB5.out _ (hx6.trans hx7),HP.out _ hw9⟩,h12,h13⟩
   obtain⟨N,hN⟩:∃ N:Nat,Hid (zB (zaO ss [a,p])=N):=⟨_,rfl⟩
   obtain⟨⟨_,n12⟩,⟨_,m12⟩⟩:=And.intro (zl Hv.out).2.1 (zl Hp.out).2.1
   obtain⟨⟨n1,_⟩,⟨m1_,_⟩⟩:=And.intro (zl Hv.out).2.1 (zl Hp.out).2.1
   obtain⟨S,hS⟩:∃ S:Nat,Hid (zB (ss.map zdk)=S):=⟨_,rfl⟩
   have hS4:1≤S∧S≤4096:=by
    rw [← hS.out]
    refine⟨zdr hsl.out,Nat.le_trans (zcN hsl.out) ?_⟩
    have:=(HS.out w (Ext.refl _)).1
    calc 16 ^ ss.length≤16 ^ 3:=Nat.pow_le_pow_right (by omega) (by omega)
     _=4096:=by decide
   have hNe:S*a.next.length*p.next.length=N:=by
    rw [← hN.out,← hS.out,show zaO ss [a,p]=ss.map zdk++[zbf a,zbf p] from rfl,zbw]
    simp [zB,zag,zbf,Nat.mul_assoc]
   have hSn:S*a.next.length≤4096*12:=Nat.mul_le_mul hS4.2 n12
   have hNle:N≤4096*12*12:=by rw [← hNe];exact Nat.mul_le_mul hSn m12
   have hN1:1≤N:=by rw [← hNe];exact Nat.mul_pos (Nat.mul_pos hS4.1 n1) m1_
   obtain⟨sn,hsn⟩:∃ z:Nat,Hid (S*a.next.length=z):=⟨_,rfl⟩
   rw [hsn.out] at hNe hSn
   have hsni:(S:Int)*(a.next.length:Int)=(sn:Int):=by rw [← hsn.out];exact (Int.natCast_mul S _).symm
   have hNi:(sn:Int)*(p.next.length:Int)=(N:Int):=by rw [← hNe];exact (Int.natCast_mul sn _).symm
   have Hd:=za (show ∀ x l,x<N→l<6→∀ y∈zbC ss a p x l,y<N from fun x l _ hl y hy=>by
    rw [zcF] at hy
    rw [← hN.out]
    refine zhF (fun mm hmm=>?_) hl y hy
    rcases List.mem_append.1 hmm with h1|h1
    ·obtain⟨s,hs',rfl⟩:=List.mem_map.1 h1
     exact zdJ (hsl.out s hs')
    ·obtain⟨b,hb',rfl⟩:=List.mem_map.1 h1
     simp at hb'
     rcases hb' with rfl|rfl
     ·exact zbg Hv.out
     ·exact zbg Hp.out)
   have Hdl:=za (show ∀ x l,(zbC ss a p x l).length≤4096 from fun x l=>by
    unfold zbC
    rw [List.length_map]
    refine Nat.le_trans (nx_len hsl.out _ l) ?_
    have:=(HS.out w (Ext.refl _)).1
    calc 16 ^ ss.length≤16 ^ 3:=Nat.pow_le_pow_right (by omega) (by omega)
     _=4096:=by decide)
   have hrise:=za (zfG (U|||al))
   have key:=za (fun W (hW:Ext w7 W) A1 c1 AL q' cL (hA1:zad W A1 1 [0]) (hL:zad W AL q' (letters (U|||al) 6))=>zeP (w:=W) (N:=N) (kn:=179) (kg:=181) (m:=1) (c:=c1) (cL:=cL)
    (capn:=#[.pointer (some ⟨g10,0,none⟩),.pointer (some ⟨g13,0,none⟩),.pointer (some ⟨g12,0,none⟩),.pointer (some ⟨g11,0,none⟩),.pointer (some ⟨g8,0,none⟩)])
    (capg:=#[.pointer (some ⟨w.heap.size,0,none⟩),.pointer (some ⟨g13,0,none⟩),.pointer (some ⟨g12,0,none⟩),.pointer (some ⟨w.heap.size+1,0,none⟩)])
    (goal:=zbs a p) (d:=zbC ss a p) (D:=4096) hA1 (fun n hn=>by simp at hn;omega) (by omega) hL hrise.out (by omega) (by omega) (fun args W=>by kernel_rfl) (fun args W=>by kernel_rfl)
    (fun W' hW' n hn=>brk_goal (hGC.ext (hW.trans hW')) Hv.out Hp.out (by omega))
    (fun n l hn hl=>⟨Hdl.out n l,Hd.out n l hn (hrise.out.1 l hl)⟩)
    (fun W' hW' n l hn hl base A m c xs hb0 hb hm ziJ=>brk_next (hC.ext hW) (HT.out _ (hw9.trans hW)) hW' hsl.out hk3 Hv.out Hp.out (by rw [hN.out];exact hn) (hrise.out.1 l hl) hb0 hb hm ziJ))
   have hSZ:=za (show ∀ W,Ext w7 W→Calls Tryz.prog 183 #[.agg #[.slice A k c,.slice M k dm]] W fun e w'=>e=.returned (.int .i64 (S:Nat))∧Ext W w' from fun W hW=>by
    have:=zhE (c:=c) (dm:=dm) (hPT.out W ((hx6.trans hx7).trans hW)) hsl.out hk3
    rw [hS.out] at this
    exact this)
   have hLT:=za (fun W=>zY (U|||al) (by have:=Nat.or_lt_two_pow (n:=6) (x:=U) (y:=al) (by omega) (by omega);unfold Sm;omega) W)
   have hor:bits .or .i64 (U:Int) (al:Int)=((U|||al:Nat):Int):=zbR (by unfold Sm;omega) (by unfold Sm;omega)
   have c8:∀ W,Ext w7 W→∀ j,W.cell? ⟨g8,j,none⟩=#[Value.slice A k c,.slice M k dm][j]?:=fun W hW=>(hC.h8.ext hW).cell
   have c12:∀ W,Ext w7 W→W.cell? ⟨g12,0,none⟩=some (.int .i64 (a.next.length:Nat)):=fun W hW=>by rw [(hC.h12.ext hW).cell];rfl
   have c13:∀ W,Ext w7 W→W.cell? ⟨g13,0,none⟩=some (.int .i64 (p.next.length:Nat)):=fun W hW=>by rw [(hC.h13.ext hW).cell];rfl
   have c4:∀ W,Ext w7 W→W.cell? ⟨w.heap.size,0,none⟩=some (.pointer (some ⟨ga,0,none⟩)):=fun W hW=>by rw [(hGC.h4.ext hW).cell];rfl
   have ca:∀ W,Ext w7 W→∀ j,W.cell? ⟨ga,j,none⟩=#[Value.int .i64 (al:Nat),.slice B m1 d1,.slice B' m1' d1'][j]?:=fun W hW=>by
    have:=(HGA5.out W ((hx6.trans hx7).trans hW)).cell
    rw [hale.out] at this
    exact this
   have hw1:IntKind.i64.wrap (sn:Int)=(sn:Int):=zfV sn (by omega)
   have hw2:IntKind.i64.wrap (N:Int)=(N:Int):=zfV N (by omega)
   have hww:=Ext.refl w7
   clear hC hGC h10 h11 h12 h13 hA hP
   go_upto_region 9 with fail
   refine uR (fun X=>Ext w7 X) [16] (zu.app [0,2,4,7,8,14,15] (zu.three 1 (zu.app [3,5] (zu.two 6 (zu.of [9,10,11,12,13,16,17,18,19,20]) 9 (zu.app [10,11,12] (zu.two 6 (zu.of [13,16,17,18,19,20]) 13 (zu.of [6,16,17,18,19,20]))))) 6 (zu.two 1 (zu.of [3,5,9,10,11,12,13,16,17,18,19,20]) 9 (zu.of [10,11,12,1,3,5,13,16,17,18,19,20])) 9 (zu.app [10,11,12] (zu.two 1 (zu.app [3,5] (zu.two 6 (zu.of [13,16,17,18,19,20]) 13 (zu.of [6,16,17,18,19,20]))) 6 (zu.of [1,3,5,13,16,17,18,19,20]))))) ?_
   refine uQ ?_
   have hx0:Ext w7 w7.drew:=hww.drew
   generalize w7.drew=wd at *
   refine uQ ?_
   refine zay (fun K hK=>?_) (fun K hK=>?_) (fun K hK=>?_)
   ·go_simp
    refine (hSZ.out _ hx0).mono ?_
    rintro e w20 ⟨rfl,hx1⟩
    replace hx0:=hx0.trans hx1
    clear hx1
    refine hK.out _ _ hx0 ?_
    refine pT ?_
    refine uQ ?_
    refine zm (fun K hK=>?_) (fun K hK=>?_)
    ·go_simp
     have hI:=zcL (x:=0) (Blk.new w20 3 #[.int .i64 ((0:Nat):Int)])
     have hx1:=(Ext.refl w20).alloc (.cells #[.int .i64 ((0:Nat):Int)] 3)
     replace hx0:=hx0.trans hx1
     clear hx1
     refine hK.out _ _ hx0 ?_
     refine pT ?_
     generalize w20.alloc (.cells #[.int .i64 ((0:Nat):Int)] 3)=w21 at *
     generalize w20.heap.size=g1 at *
     exact yC05a10
    ·go_simp
     exact yC05a3
   ·go_simp
    have hI:=zcL (x:=0) (Blk.new wd 3 #[.int .i64 ((0:Nat):Int)])
    have hx1:=(Ext.refl wd).alloc (.cells #[.int .i64 ((0:Nat):Int)] 3)
    replace hx0:=hx0.trans hx1
    clear hx1
    refine hK.out _ _ hx0 ?_
    refine pT ?_
    generalize wd.alloc (.cells #[.int .i64 ((0:Nat):Int)] 3)=w20 at *
    generalize wd.heap.size=g1 at *
    refine zm (fun K hK=>?_) (fun K hK=>?_)
    ·go_simp
     refine (hSZ.out _ hx0).mono ?_
     rintro e w21 ⟨rfl,hx1⟩
     replace hx0:=hx0.trans hx1
     replace hI:=hI.ext hx1
     clear hx1
     refine hK.out _ _ hx0 ?_
     refine pT ?_
     refine uQ ?_
     exact yC05a10
    ·go_simp
     refine hK.out _ _ hx0 ?_
     refine pT ?_
     refine uQ ?_
     exact yC05a9
   ·go_simp
    refine hK.out _ _ hx0 ?_
    refine pT ?_
    refine uQ ?_
    refine zm (fun K hK=>?_) (fun K hK=>?_)
    ·go_simp
     refine (hSZ.out _ hx0).mono ?_
     rintro e w20 ⟨rfl,hx1⟩
     replace hx0:=hx0.trans hx1
     clear hx1
     exact yC05a3
    ·go_simp
     have hI:=zcL (x:=0) (Blk.new wd 3 #[.int .i64 ((0:Nat):Int)])
     have hx1:=(Ext.refl wd).alloc (.cells #[.int .i64 ((0:Nat):Int)] 3)
     replace hx0:=hx0.trans hx1
     clear hx1
     refine hK.out _ _ hx0 ?_
     refine pT ?_
     generalize wd.alloc (.cells #[.int .i64 ((0:Nat):Int)] 3)=w20 at *
     generalize wd.heap.size=g1 at *
     exact yC05a9
noncomputable def lostB (d:Nat→Nat→List Nat) (start:List Nat) (goal:Nat→Bool) (L:List Nat):Bool:=@decide (Lost d start goal L) (Classical.propDecidable _)
noncomputable def zfF (d:Nat→Nat→List Nat) (start:List Nat) (goal:Nat→Bool) (L:List Nat):List Nat:=@dite _ (∃ v,Found d start goal L v) (Classical.propDecidable _) (fun h=>Classical.choose h) (fun _=>[])
section
variable {d:Nat→Nat→List Nat} {start L:List Nat} {goal:Nat→Bool}
theorem found_uniq (h6:∀ l∈L,l<6) {u v:List Nat}(hu:Found d start goal L u)(hv:Found d start goal L v):u=v:=by
 obtain⟨u1,⟨x,u2,u3⟩,u4⟩:=hu
 obtain⟨v1,⟨y,v2,v3⟩,v4⟩:=hv
 have h1:¬ zcj u<zcj v:=fun h=>by
  have:=v4 u u1 h x u2
  rw [u3] at this;cases this
 have h2:¬ zcj v<zcj u:=fun h=>by
  have:=u4 v v1 h y v2
  rw [v3] at this;cases this
 exact wval_inj _ u v (Nat.le_refl _) (fun l hl=>h6 l (u1 l hl)) (fun l hl=>h6 l (v1 l hl)) (by omega)
theorem zen (h6:∀ l∈L,l<6) {v:List Nat}(h:Found d start goal L v):zfF d start goal L=v∧lostB d start goal L=false:=by
 constructor
 ·unfold zfF
  rw [@dif_pos _ (Classical.propDecidable _) ⟨v,h⟩]
  exact found_uniq h6 (Classical.choose_spec (⟨v,h⟩:∃ v,Found d start goal L v)) h
 ·refine @decide_eq_false _ (Classical.propDecidable _) fun hl=>?_
  obtain⟨h1,⟨x,h2,h3⟩,_⟩:=h
  have:=hl v h1 x h2
  rw [h3] at this;cases this
theorem zft (h:Lost d start goal L):zfF d start goal L=[]∧lostB d start goal L=true:=by
 constructor
 ·unfold zfF
  rw [@dif_neg _ (Classical.propDecidable _)]
  rintro ⟨v,h1,⟨x,h2,h3⟩,_⟩
  have:=h v h1 x h2
  rw [h3] at this;cases this
 ·exact @decide_eq_true _ (Classical.propDecidable _) h
theorem zJ.first {w:World} {e:Ending} {w':World}(h:zJ w d start goal L e w')(h6:∀ l∈L,l<6):e=.returned (.tuple #[.string (wstr (zfF d start goal L)),.bool (!lostB d start goal L)])∧Ext w w':=by
 obtain⟨hx,⟨v,rfl,hF⟩|⟨rfl,hL⟩⟩:=h
 ·obtain⟨h1,h2⟩:=zen h6 hF
  rw [h1,h2]
  exact⟨rfl,hx⟩
 ·obtain⟨h1,h2⟩:=zft hL
  rw [h1,h2]
  exact⟨rfl,hx⟩
end
noncomputable def vioW (ss:List Sys) (a p:Aut):ByteArray:=wstr (zfF (zbC ss a p) [0] (zbs a p) (letters (zD ss|||a.al.toNat) 6))
noncomputable def vioB (ss:List Sys) (a p:Aut):Bool:=!lostB (zbC ss a p) [0] (zbs a p) (letters (zD ss|||a.al.toNat) 6)
theorem zbV (a:Nat):∀ l∈letters a 6,l<6:=fun _ hl=>(zz.1 hl).1
theorem brkD_free (ss:List Sys) (p:Aut):zbC ss free p=pnx (zaO ss [p]):=by
 rw [zcF]
 funext x l
 exact pnx_free ss p x l
theorem brkG_free (p:Aut) (x:Nat):zbs free p x=!zcg p (x % p.next.length):=by
 unfold zbs
 rw [show free.next.length=1 from rfl,Nat.mod_one]
 rfl
theorem sl_one {w:World} {g lo hi n c:Nat} {B:Option Addr} {s:Sys}(hb:Blk w g 38 #[.int .i64 s.al,.int .i64 s.st,.slice B n c])(h:zM w lo hi B n s):∃ lo hi,zha w lo hi (some ⟨g,0,none⟩) 1 [s]:=by
 refine⟨0,hi+g+1,rfl,[.int .i64 s.al,.int .i64 s.st,.slice B n c],⟨rfl,by omega,fun _=>⟨_,rfl,Nat.zero_le _,by dsimp only;omega,fun j u hu=>?_⟩⟩,fun k t ht=>?_⟩
 ·rw [zaE,Nat.zero_add,hb.cell]
  simpa using hu
 ·cases k with
  |zero =>
   simp at ht;subst ht
   exact⟨B,n,c,rfl,rfl,rfl,h.1,h.2.more (Nat.zero_le _) (by omega)⟩
  |succ k=>simp at ht
theorem al_one {w:World} {g lo hi n c n' c':Nat} {B B':Option Addr} {a:Aut}(hb:Blk w g 31 #[.int .i64 a.al,.slice B n c,.slice B' n' c'])(h:zC w lo hi B n B' n' a):∃ lo hi,ALAt w lo hi (some ⟨g,0,none⟩) 1 [a]:=by
 refine⟨0,hi+g+1,rfl,[.int .i64 a.al,.slice B n c,.slice B' n' c'],⟨rfl,by omega,fun _=>⟨_,rfl,Nat.zero_le _,by dsimp only;omega,fun j u hu=>?_⟩⟩,fun k t ht=>?_⟩
 ·rw [zaE,Nat.zero_add,hb.cell]
  simpa using hu
 ·cases k with
  |zero =>
   simp at ht;subst ht
   exact⟨B,n,c,B',n',c',rfl,rfl,rfl,h.more (Nat.zero_le _) (by omega)⟩
  |succ k=>simp at ht
theorem al_two {w:World} {g lo hi n c n' c' lo2 hi2 m d m' d':Nat} {B B' C C':Option Addr} {a p:Aut}(hb:Blk w g 31 #[.int .i64 a.al,.slice B n c,.slice B' n' c',.int .i64 p.al,.slice C m d,.slice C' m' d'])(h:zC w lo hi B n B' n' a)(h':zC w lo2 hi2 C m C' m' p):∃ lo hi,ALAt w lo hi (some ⟨g,0,none⟩) 2 [a,p]:=by
 refine⟨0,hi+hi2+g+1,rfl,[.int .i64 a.al,.slice B n c,.slice B' n' c',.int .i64 p.al,.slice C m d,.slice C' m' d'],⟨rfl,by omega,fun _=>⟨_,rfl,Nat.zero_le _,by dsimp only;omega,fun j u hu=>?_⟩⟩,fun k t ht=>?_⟩
 ·rw [zaE,Nat.zero_add,hb.cell]
  simpa using hu
 ·match k with
  |0 =>
   simp at ht;subst ht
   exact⟨B,n,c,B',n',c',rfl,rfl,rfl,h.more (Nat.zero_le _) (by omega)⟩
  |1 =>
   simp at ht;subst ht
   exact⟨C,m,d,C',m',d',rfl,rfl,rfl,h'.more (Nat.zero_le _) (by omega)⟩
  |k+2=>simp at ht
theorem zeros_row {w:World} {base g n:Nat}(h:w.ownsRow base 3 1 (.slice (some ⟨g,0,none⟩) n n) n (zS (List.replicate n 0))):Lst zbb w base w.heap.size (some ⟨g,0,none⟩) (List.replicate n 0):=by
 have hh:=Lst.own_nats (xs:=List.replicate n 0) (W:=w) (base:=base) (c:=n) (A:=some ⟨g,0,none⟩) (by rw [List.length_replicate];exact h)
 exact hh
theorem zeros_blk {w:World} {g n:Nat} {cs:Array Value}(h:Blk w g 3 cs)(hc:cs.toList=zS (List.replicate n 0))(hn:n≤100):Lst zbb w g (g+1) (some ⟨g,0,none⟩) (List.replicate n 0):=by
 refine Lst.of_nats ⟨by simp [zS],by simp;omega,fun _=>⟨_,rfl,Nat.le_refl _,by simp,fun j u hu=>?_⟩⟩
 rw [zaE,Nat.zero_add,h.cell]
 rw [← hc] at hu
 simpa using hu
theorem zaK {ss:List Sys}(h:zA ss=true):(1≤ss.length∧ss.length≤3)∧∀ s∈ss,zn s=true:=by
 unfold zA at h
 simp only [Bool.and_eq_true,decide_eq_true_eq,List.all_eq_true] at h
 exact⟨⟨h.1,h.2.1⟩,h.2.2⟩
theorem ziH {ss:List Sys}(h:∀ s∈ss,zn s=true):zD ss≤63:=by
 have:∀ n,zD (ss.take n)≤63:=by
  intro n
  induction n with
  |zero=>simp [zD]
  |succ n ih =>
   rcases Nat.lt_or_ge n ss.length with h1|h1
   ·rw [zcD (List.getElem?_eq_getElem h1)]
    have:=zN (h _ (List.getElem_mem h1))
    have:=Nat.or_lt_two_pow (n:=6) (x:=zD (ss.take n)) (y:=ss[n].al.toNat) (by omega) (by omega)
    omega
   ·rw [List.take_of_length_le (by omega)]
    rw [List.take_of_length_le h1] at ih
    exact ih
 have h2:=this ss.length
 rwa [List.take_length] at h2
theorem first_under {PA AA SA:Option Addr} {pn pc ac sc lo hi:Nat} {G:Int} {L:Nat} {ss:List Sys} {a p:Aut} {w:World}(h:zeG w PA pn AA 2 ss [a,p])(hap:zA ss=true)(hv:zk a=true)(hp:zk p=true)(hS:Lst zbb w lo hi SA (List.replicate (pn+2) 0))(hL:L=zD ss|||a.al.toNat) :
  Calls Tryz.prog 137 #[.agg #[.slice PA pn pc,.slice AA 2 ac,.slice SA (pn+2) sc,.int .i64 L,.int .i64 2,.int .i64 G]] w fun e w'=>e=.returned (.tuple #[.string (vioW ss a p),.bool (vioB ss a p)])∧Ext w w':=by
 obtain⟨⟨hp1,hp3⟩,hsv⟩:=zaK hap
 have hpn:pn=ss.length:=by obtain⟨_,_,h1⟩:=h.sys;exact h1.1
 have hok:zdl ss [a,p]:=⟨hsv,fun b hb=>by simp at hb;rcases hb with rfl|rfl<;>assumption,hp3,by simp⟩
 have hU:=ziH hsv
 have hal:=(zl hv).1
 have hL64:L<64:=by
  rw [hL]
  exact Nat.or_lt_two_pow (n:=6) (by omega) (by omega)
 obtain⟨_,⟨a1,_⟩,a3,_⟩:=zl hv
 obtain⟨_,⟨p1,_⟩,p3,_⟩:=zl hp
 have hsz:szs ss [a,p]=ss.map (fun s=>s.st.toNat)++[a.next.length,p.next.length]:=rfl
 have hln:(szs ss [a,p]).length=pn+2:=by rw [hsz];simp [hpn]
 have key:=zdz (pc:=pc) (ac:=ac) (sc:=sc) (K:=2) (G:=G) (goal:=zbs a p) h hok hS hln hL64 (fun W hW x A l hh c mv hx hl=>by
  have e0:(szs ss [a,p])[pn]?=some a.next.length:=by rw [hsz,List.getElem?_append_right (by simp [hpn])];simp [hpn]
  have e1:(szs ss [a,p])[pn+1]?=some p.next.length:=by rw [hsz,List.getElem?_append_right (by simp [hpn])];simp [hpn]
  have d0:(szs ss [a,p]).drop (pn+1)=[p.next.length]:=by
   rw [hsz,List.drop_append,List.drop_of_length_le (by simp [hpn])]
   simp [hpn]
  have d1:(szs ss [a,p]).drop (pn+1+1)=[]:=List.drop_of_length_le (by rw [hln];omega)
  have f0:=zhX (x:=x) e0
  have f1:=zhX (x:=x) e1
  rw [d0] at f0
  rw [d1] at f1
  simp only [zag,Nat.mul_one,Nat.div_one] at f0 f1
  exact ziC (h.ext hW) hl (by rw [zcY,hln]) f0 (by rw [a3];exact Nat.mod_lt _ a1) f1 (by rw [p3];exact Nat.mod_lt _ p1))
 refine key.mono fun e w' hr=>?_
 have:=hr.first (zbV L)
 rw [← zcF,hL] at this
 exact this
theorem zhu {PA AA SA:Option Addr} {pn pc ac sc lo hi:Nat} {G:Int} {L:Nat} {ss:List Sys} {p:Aut} {w:World}(h:zeG w PA pn AA 1 ss [p])(hap:zA ss=true)(hp:zk p=true)(hS:Lst zbb w lo hi SA (List.replicate (pn+1) 0))(hL:L=zD ss) :
  Calls Tryz.prog 137 #[.agg #[.slice PA pn pc,.slice AA 1 ac,.slice SA (pn+1) sc,.int .i64 L,.int .i64 3,.int .i64 G]] w fun e w'=>e=.returned (.tuple #[.string (vioW ss free p),.bool (vioB ss free p)])∧Ext w w':=by
 obtain⟨⟨hp1,hp3⟩,hsv⟩:=zaK hap
 have hpn:pn=ss.length:=by obtain⟨_,_,h1⟩:=h.sys;exact h1.1
 have hok:zdl ss [p]:=⟨hsv,fun b hb=>by simp at hb;subst hb;assumption,hp3,by simp⟩
 have hU:=ziH hsv
 obtain⟨_,⟨p1,_⟩,p3,_⟩:=zl hp
 have hsz:szs ss [p]=ss.map (fun s=>s.st.toNat)++[p.next.length]:=rfl
 have hln:(szs ss [p]).length=pn+1:=by rw [hsz];simp [hpn]
 have key:=zdz (pc:=pc) (ac:=ac) (sc:=sc) (K:=3) (G:=G) (goal:=zbs free p) h hok hS hln (show L<64 by omega) (fun W hW x A l hh c mv hx hl=>by
  have e0:(szs ss [p])[pn]?=some p.next.length:=by rw [hsz,List.getElem?_append_right (by simp [hpn])];simp [hpn]
  have d1:(szs ss [p]).drop (pn+1)=[]:=List.drop_of_length_le (by rw [hln];omega)
  have f0:=zhX (x:=x) e0
  rw [d1] at f0
  simp only [zag,Nat.div_one] at f0
  rw [brkG_free]
  exact ziD (h.ext hW) hl (by rw [zcY,hln]) f0 (by rw [p3];exact Nat.mod_lt _ p1))
 refine key.mono fun e w' hr=>?_
 have:=hr.first (zbV L)
 rw [← brkD_free,hL] at this
 unfold vioW vioB
 rw [show free.al.toNat=0 from rfl,Nat.or_zero]
 exact this
def zcC (s:Sys) (a p:Aut):Bool:=zn s&&(zk a&&zk p)
noncomputable def zci (s:Sys) (a p:Aut):Bool:=zcC s a p&&vioB [s] a p
noncomputable def zbl (s:Sys) (a p:Aut):ByteArray:=if zcC s a p=true then vioW [s] a p else ByteArray.empty
noncomputable def keepsU (s:Sys) (a p:Aut):Bool:=zcC s a p&&!vioB [s] a p
def zcd (ss:List Sys) (p:Aut):Bool:=zA ss&&zk p
noncomputable def zbD (ss:List Sys) (p:Aut):Bool:=zcd ss p&&vioB ss free p
noncomputable def zaf (ss:List Sys) (p:Aut):ByteArray:=if zcd ss p=true then vioW ss free p else ByteArray.empty
noncomputable def zeg (ss:List Sys) (p:Aut):Bool:=zcd ss p&&!vioB ss free p
theorem underB_keeps (s:Sys) (a p:Aut):keepsU s a p=(zcC s a p&&!zci s a p):=by unfold keepsU zci;cases zcC s a p<;>simp
theorem brokB_keeps (ss:List Sys) (p:Aut):zeg ss p=(zcd ss p&&!zbD ss p):=by unfold zeg zbD;cases zcd ss p<;>simp
section
variable {lo hi n c:Nat} {A:Option Addr} {s:Sys} {lo1 hi1 m1 d1 m1' d1':Nat} {B B':Option Addr} {a:Aut} {lo2 hi2 m2 d2 m2' d2':Nat} {C C':Option Addr} {p:Aut} {w:World}
theorem spec_l8Three (h:zM w lo hi A n s)(ha:zC w lo1 hi1 B m1 B' m1' a)(hp:zC w lo2 hi2 C m2 C' m2' p) :
  Calls Tryz.prog 136 #[.agg #[.int .i64 s.al,.int .i64 s.st,.slice A n c],.agg #[.int .i64 a.al,.slice B m1 d1,.slice B' m1' d1'],.agg #[.int .i64 p.al,.slice C m2 d2,.slice C' m2' d2']] w fun e w'=>e=.returned (.bool (zcC s a p))∧Ext w w':=by
 have HS:=za (fun W (hW:Ext w W)=>zax (c:=c) (h.ext hW))
 have HA:=za (fun W (hW:Ext w W)=>zO _ _ _ _ d1 _ _ d1' _ _ (ha.ext hW))
 have HP:=za (fun W (hW:Ext w W)=>zO _ _ _ _ d2 _ _ d2' _ _ (hp.ext hW))
 have hr:=za (show zcC s a p=(zn s&&(zk a&&zk p)) from rfl)
 clear h ha hp
 have hw1:Ext w (((w.alloc (.cells #[.int .i64 s.al,.int .i64 s.st,.slice A n c] 38)).alloc (.cells #[.int .i64 a.al,.slice B m1 d1,.slice B' m1' d1'] 31)).alloc (.cells #[.int .i64 p.al,.slice C m2 d2,.slice C' m2' d2'] 31)):=(((Ext.refl w).alloc _).alloc _).alloc _
 obtain⟨b1,b2,b3⟩:=zK (Ext.refl (((w.alloc (.cells #[.int .i64 s.al,.int .i64 s.st,.slice A n c] 38)).alloc (.cells #[.int .i64 a.al,.slice B m1 d1,.slice B' m1' d1'] 31)).alloc (.cells #[.int .i64 p.al,.slice C m2 d2,.slice C' m2' d2'] 31)))
 cases h1:zn s<;>cases h2:zk a<;>cases h3:zk p
 all_goals
  have H1:=za h1
  have H2:=za h2
  have H3:=za h3
  clear h1 h2 h3
  go_enter Tryz.func136,Tryz.ntmps136
  go_upto_region 1 with fail
  generalize ((w.alloc (.cells #[.int .i64 s.al,.int .i64 s.st,.slice A n c] 38)).alloc (.cells #[.int .i64 a.al,.slice B m1 d1,.slice B' m1' d1'] 31)).alloc (.cells #[.int .i64 p.al,.slice C m2 d2,.slice C' m2' d2'] 31)=w1 at *
  have c1:=b1.cell
  go_wp2_with (first
   |(go_at_call 199;with_reducible refine (HS.out _ hw1).mono ?_;rw [H1.out];rintro e w2 ⟨rfl,hx2⟩;have hw2:=hw1.trans hx2;have c2:=(b2.ext hx2).cell)
   |(go_at_call 200;with_reducible refine (HA.out _ hw2).mono ?_;rw [H2.out];rintro e w3 ⟨rfl,hx3⟩;have hw3:=hw2.trans hx3;have c3:=(b3.ext (hx2.trans hx3)).cell)
   |(go_at_call 200;with_reducible refine (HP.out _ hw3).mono ?_;rw [H3.out];rintro e w4 ⟨rfl,hx4⟩;have hw4:=hw3.trans hx4))
  go_ret
  exact⟨zj (by rw [hr.out,H1.out,H2.out,H3.out];rfl),by first|exact hw4|exact hw3|exact hw2⟩
theorem zeA (h:zM w lo hi A n s)(ha:zC w lo1 hi1 B m1 B' m1' a)(hp:zC w lo2 hi2 C m2 C' m2' p) :
  Calls Tryz.prog 72 #[.agg #[.int .i64 s.al,.int .i64 s.st,.slice A n c],.agg #[.int .i64 a.al,.slice B m1 d1,.slice B' m1' d1'],.agg #[.int .i64 p.al,.slice C m2 d2,.slice C' m2' d2']] w fun e w'=>e=.returned (.tuple #[.string (zbl s a p),.bool (zci s a p)])∧Ext w w':=by
 have H8:=za (fun W (hW:Ext w W)=>spec_l8Three (c:=c) (d1:=d1) (d1':=d1') (d2:=d2) (d2':=d2') (h.ext hW) (ha.ext hW) (hp.ext hW))
 have HS:=za (fun W (hW:Ext w W)=>h.ext hW)
 have HA:=za (fun W (hW:Ext w W)=>ha.ext hW)
 have HP:=za (fun W (hW:Ext w W)=>hp.ext hW)
 clear h ha hp
 have hw1:Ext w (((w.alloc (.cells #[.int .i64 s.al,.int .i64 s.st,.slice A n c] 38)).alloc (.cells #[.int .i64 a.al,.slice B m1 d1,.slice B' m1' d1'] 31)).alloc (.cells #[.int .i64 p.al,.slice C m2 d2,.slice C' m2' d2'] 31)):=(((Ext.refl w).alloc _).alloc _).alloc _
 obtain⟨b1,b2,b3⟩:=zK (Ext.refl (((w.alloc (.cells #[.int .i64 s.al,.int .i64 s.st,.slice A n c] 38)).alloc (.cells #[.int .i64 a.al,.slice B m1 d1,.slice B' m1' d1'] 31)).alloc (.cells #[.int .i64 p.al,.slice C m2 d2,.slice C' m2' d2'] 31)))
 cases hT:zcC s a p
 ·have HT:=za hT
  have hr:=za (show zbl s a p=ByteArray.empty∧zci s a p=false by unfold zbl zci;rw [hT];exact⟨rfl,rfl⟩)
  clear hT
  go_enter Tryz.func72,Tryz.ntmps72
  go_upto_region 1 with fail
  generalize ((w.alloc (.cells #[.int .i64 s.al,.int .i64 s.st,.slice A n c] 38)).alloc (.cells #[.int .i64 a.al,.slice B m1 d1,.slice B' m1' d1'] 31)).alloc (.cells #[.int .i64 p.al,.slice C m2 d2,.slice C' m2' d2'] 31)=w1 at *
  have c1:=b1.cell
  have c2:=b2.cell
  have c3:=b3.cell
  go_wp2_with (go_at_call 136;refine (H8.out _ hw1).mono ?_;rw [HT.out];rintro e w2 ⟨rfl,hx2⟩)
  go_ret2
  exact⟨by rw [hr.out.1,hr.out.2];rfl,hw1.trans hx2⟩
 ·have hv:zn s=true∧zk a=true∧zk p=true:=by
   unfold zcC at hT
   simp only [Bool.and_eq_true] at hT
   exact hT
  obtain⟨v1,v2,v3⟩:=hv
  have HT:=za hT
  have hr:=za (show zbl s a p=vioW [s] a p∧zci s a p=vioB [s] a p by unfold zbl zci;rw [hT];exact⟨rfl,by simp⟩)
  have hal:=(zl v2).1
  have hsl:=zN v1
  obtain⟨sl,hse⟩:∃ al:Nat,Hid (s.al=al):=⟨s.al.toNat,by unfold Hid;omega⟩
  obtain⟨al,hae⟩:∃ al:Nat,Hid (a.al=al):=⟨a.al.toNat,by unfold Hid;omega⟩
  have hsl6:sl≤63:=by have:=hse.out;omega
  have hal6:al≤63:=by have:=hae.out;omega
  have hor:bits .or .i64 (sl:Int) (al:Int)=((sl|||al:Nat):Int):=zbR (by unfold Sm;omega) (by unfold Sm;omega)
  have hLe:=za (show (sl|||al)=zD [s]|||a.al.toNat by
   have h1:=hse.out;have h2:=hae.out
   rw [h2,Int.toNat_natCast]
   simp [zD,h1])
  have hap:=za (show zA [s]=true by simp [zA,v1])
  have V2:=za v2
  have V3:=za v3
  clear hT hal hsl v1 v2 v3
  go_enter Tryz.func72,Tryz.ntmps72
  go_upto_region 1 with fail
  generalize ((w.alloc (.cells #[.int .i64 s.al,.int .i64 s.st,.slice A n c] 38)).alloc (.cells #[.int .i64 a.al,.slice B m1 d1,.slice B' m1' d1'] 31)).alloc (.cells #[.int .i64 p.al,.slice C m2 d2,.slice C' m2' d2'] 31)=w1 at *
  have c1:=b1.cell
  have c2:=b2.cell
  have c3:=b3.cell
  go_upto_region 3 with (go_at_call 136;refine (H8.out _ hw1).mono ?_;rw [HT.out];rintro e w2 ⟨rfl,hx2⟩)
  clear c1 c2 c3
  replace b1:=b1.ext hx2
  replace b2:=b2.ext hx2
  replace b3:=b3.ext hx2
  have hw2:=hw1.trans hx2
  clear hw1 hx2
  have e1:=Blk.new w2 38 #[.int .i64 s.al,.int .i64 s.st,.slice A n c]
  have f1:=(Ext.refl w2).alloc (.cells #[.int .i64 s.al,.int .i64 s.st,.slice A n c] 38)
  have b1':=b1
  have b2':=b2.ext f1
  have b3':=b3.ext f1
  have e2:=Blk.new (w2.alloc (.cells #[.int .i64 s.al,.int .i64 s.st,.slice A n c] 38)) 31 #[.int .i64 a.al,.slice B m1 d1,.slice B' m1' d1',.int .i64 p.al,.slice C m2 d2,.slice C' m2' d2']
  have f2:=(Ext.refl (w2.alloc (.cells #[.int .i64 s.al,.int .i64 s.st,.slice A n c] 38))).alloc (.cells #[.int .i64 a.al,.slice B m1 d1,.slice B' m1' d1',.int .i64 p.al,.slice C m2 d2,.slice C' m2' d2'] 31)
  have e3:=Blk.new ((w2.alloc (.cells #[.int .i64 s.al,.int .i64 s.st,.slice A n c] 38)).alloc (.cells #[.int .i64 a.al,.slice B m1 d1,.slice B' m1' d1',.int .i64 p.al,.slice C m2 d2,.slice C' m2' d2'] 31)) 3 #[.int .i64 0,.int .i64 0,.int .i64 0]
  have f3:=(Ext.refl ((w2.alloc (.cells #[.int .i64 s.al,.int .i64 s.st,.slice A n c] 38)).alloc (.cells #[.int .i64 a.al,.slice B m1 d1,.slice B' m1' d1',.int .i64 p.al,.slice C m2 d2,.slice C' m2' d2'] 31))).alloc (.cells #[.int .i64 0,.int .i64 0,.int .i64 0] 3)
  have b1'':=b1.ext (f1.trans (f2.trans f3))
  have b2'':=b2.ext (f1.trans (f2.trans f3))
  have k1:=b1.cell
  have k2:=b2'.cell
  have k3:=b3'.cell
  have k4:=(b1''.cell 0).trans (show #[Value.int .i64 s.al,.int .i64 s.st,.slice A n c][0]?=some (Value.int .i64 (sl:Nat)) by rw [hse.out];rfl)
  have k5:=(b2''.cell 0).trans (show #[Value.int .i64 a.al,.slice B m1 d1,.slice B' m1' d1'][0]?=some (Value.int .i64 (al:Nat)) by rw [hae.out];rfl)
  have hw3:=hw2.trans (f1.trans (f2.trans f3))
  have hnet:∃ lo hi,zeG (((w2.alloc (.cells #[.int .i64 s.al,.int .i64 s.st,.slice A n c] 38)).alloc (.cells #[.int .i64 a.al,.slice B m1 d1,.slice B' m1' d1',.int .i64 p.al,.slice C m2 d2,.slice C' m2' d2'] 31)).alloc (.cells #[.int .i64 0,.int .i64 0,.int .i64 0] 3)) (some ⟨w2.heap.size,0,none⟩) 1 (some ⟨w2.heap.size+1,0,none⟩) 2 [s] [a,p]∧Lst zbb (((w2.alloc (.cells #[.int .i64 s.al,.int .i64 s.st,.slice A n c] 38)).alloc (.cells #[.int .i64 a.al,.slice B m1 d1,.slice B' m1' d1',.int .i64 p.al,.slice C m2 d2,.slice C' m2' d2'] 31)).alloc (.cells #[.int .i64 0,.int .i64 0,.int .i64 0] 3)) lo hi (some ⟨w2.heap.size+1+1,0,none⟩) (List.replicate 3 0):=by
   have e2':=e2.ext f3
   have e3':=e3
   simp only [World.size_alloc] at e2' e3'
   exact⟨_,_,⟨sl_one (e1.ext (f2.trans f3)) (HS.out _ hw3),al_two e2' (HA.out _ hw3) (HP.out _ hw3)⟩,zeros_blk (n:=3) e3' rfl (by omega)⟩
  have Hnet:=za hnet
  clear hnet e1 e2 e3 f1 f2 f3 b1 b2 b3 b1' b2' b3' b1'' b2'' hw2
  go_wp2_with (go_at_call 137;obtain⟨l1,h1,hn1,hn2⟩:=Hnet.out;refine (first_under (pn:=1) hn1 hap.out V2.out V3.out hn2 hLe.out).mono ?_;rintro e w4 ⟨rfl,hx4⟩)
  go_ret2
  exact⟨by rw [hr.out.1,hr.out.2];rfl,hw3.trans hx4⟩
end
theorem wp_make {P:Program} (w:World) {o:Oper} {a:Act} {K:Act→World→Prop} {Q:Exit→Act→World→Prop} (l c:Operand) (t:TypeId)(ho:o.op=.makeSlice t l c)
  (e:TypeId) (z:Value) (size bytes:Nat) (ht:P.underlying t=some (.slice e)) (hi:(P.info? e).map (fun i=>(i.zero,i.size,i.bytes))=some (some z,size,bytes))
  (kl kc:IntKind) (n:Nat) (hl:a.eval l=.int kl (n:Int)) (hc:a.eval c=.int kc (n:Int)) (hbytes:n*bytes≤140737488355328) (h63:n≤maxLen)
  (h:∀ w',w'.ownsRow w.heap.size e size (.slice (some ⟨w.heap.size,0,none⟩) n n) n (madeCells z.cells (n*size)).toList→Ext w w'→K (a.put o.dst (.slice (some ⟨w.heap.size,0,none⟩) n n)) w') :
  o.wp P a w K Q:=by
 obtain⟨i,hi0,hz0,hz1,hz2⟩:=info_parts hi
 obtain⟨w',hrun,r1,r2⟩:=run_make_full (P:=P) w w.heap.size t e i z size ht hi0 hz0 hz1 kl kc n (by rw [hz2,Nat.mul_comm];omega) h63 (Nat.le_refl _)
 unfold Oper.wp
 simp [execOp,ho,hl,hc,hrun,Result.andThen]
 exact h w' r1 ((Ext.refl _).grown r2 (by simp))
section
variable {lo hi n c:Nat} {A:Option Addr} {s:Sys} {lo1 hi1 m1 d1 m1' d1':Nat} {B B':Option Addr} {a:Aut} {lo2 hi2 m2 d2 m2' d2':Nat} {C C':Option Addr} {p:Aut} {w:World}
theorem madeZ (n:Nat):(madeCells (Value.int .i64 0).cells (n*1)).toList=zS (List.replicate n 0):=by
 simp [Value.cells,toList_madeCells_one,zS]
variable {k:Nat} {ss:List Sys}
theorem zcz (h:zha w lo hi A k ss)(hp:zC w lo2 hi2 C m2 C' m2' p) :
  Calls Tryz.prog 147 #[.slice A k c,.agg #[.int .i64 p.al,.slice C m2 d2,.slice C' m2' d2']] w fun e w'=>e=.returned (.tuple #[.string (zaf ss p),.bool (zbD ss p)])∧Ext w w':=by
 have HS:=za (fun W (hW:Ext w W)=>h.ext hW)
 have HP:=za (fun W (hW:Ext w W)=>hp.ext hW)
 have hkl:=h.len
 have hkL:=za h.1
 clear h hp
 have hw1:Ext w (w.alloc (.cells #[.int .i64 p.al,.slice C m2 d2,.slice C' m2' d2'] 31)):=(Ext.refl w).alloc _
 have b1:=Blk.new w 31 #[.int .i64 p.al,.slice C m2 d2,.slice C' m2' d2']
 cases hA:zA ss
 ·have hr:=za (show zaf ss p=ByteArray.empty∧zbD ss p=false by unfold zaf zbD zcd;rw [hA];exact⟨rfl,rfl⟩)
  have hPA:=za (show zbI ss = -1 by unfold zbI;rw [hA];rfl)
  clear hA
  go_enter Tryz.func147,Tryz.ntmps147
  go_upto_region 1 with fail
  generalize w.alloc (.cells #[.int .i64 p.al,.slice C m2 d2,.slice C' m2' d2'] 31)=w1 at *
  go_wp2_with (go_at_call 207;refine (zbJ (HS.out _ hw1)).mono ?_;rw [hPA.out];rintro e w2 ⟨rfl,hx2⟩)
  go_ret2
  exact⟨by rw [hr.out.1,hr.out.2];rfl,hw1.trans hx2⟩
 ·have hPA:=za (show zbI ss=(zD ss:Int) by unfold zbI;rw [hA];rfl)
  cases hV:zk p
  ·have hr:=za (show zaf ss p=ByteArray.empty∧zbD ss p=false by unfold zaf zbD zcd;rw [hA,hV];exact⟨rfl,rfl⟩)
   have HV:=za hV
   clear hA hV
   go_enter Tryz.func147,Tryz.ntmps147
   go_upto_region 1 with fail
   generalize w.alloc (.cells #[.int .i64 p.al,.slice C m2 d2,.slice C' m2' d2'] 31)=w1 at *
   go_wp2_with (first
    |(go_at_call 207;refine (zbJ (HS.out _ hw1)).mono ?_;rw [hPA.out];rintro e w2 ⟨rfl,hx2⟩;have hw2:=hw1.trans hx2;have c2:=(b1.ext hx2).cell)
    |(go_at_call 200;refine (zO _ _ _ _ _ _ _ _ _ _ (HP.out _ hw2)).mono ?_;rw [HV.out];rintro e w3 ⟨rfl,hx3⟩;have hw3:=hw2.trans hx3))
   go_ret2
   exact⟨by rw [hr.out.1,hr.out.2];rfl,hw3⟩
  ·have hr:=za (show zaf ss p=vioW ss free p∧zbD ss p=vioB ss free p by unfold zaf zbD zcd;rw [hA,hV];exact⟨rfl,by simp⟩)
   obtain⟨⟨_,hk3⟩,hsv⟩:=zaK hA
   have hk3':k≤3:=by rw [hkL.out];exact hk3
   have hU:=ziH hsv
   have HV:=za hV
   have HA:=za hA
   clear hA hV hsv hk3
   generalize hUe:zD ss=U at *
   have HU:=za hUe
   clear hUe
   go_enter Tryz.func147,Tryz.ntmps147
   go_upto_region 1 with fail
   generalize w.alloc (.cells #[.int .i64 p.al,.slice C m2 d2,.slice C' m2' d2'] 31)=w1 at *
   go_upto_region 4 with (first
    |(go_at_call 207;refine (zbJ (HS.out _ hw1)).mono ?_;rw [hPA.out];rintro e w2 ⟨rfl,hx2⟩;have hw2:=hw1.trans hx2;have c2:=(b1.ext hx2).cell)
    |(go_at_call 200;refine (zO _ _ _ _ _ _ _ _ _ _ (HP.out _ hw2)).mono ?_;rw [HV.out];rintro e w3 ⟨rfl,hx3⟩;have hw3:=hw2.trans hx3))
   have b13:=b1.ext (hx2.trans hx3)
   have c3:=b13.cells
   have hww:=Ext.refl w3
   have hk1:IntKind.i64.wrap ((k:Int)+1)=((k+1:Nat):Int):=by rw [← Int.natCast_succ];exact zfV (k+1) (by omega)
   clear c2 b1 b13
   refine uR (fun X=>Ext w3 X) [9] (zu.app [0,1,3,4,5,7] (zu.two 2 (zu.of [6,8,9,10,11,12,13]) 6 (zu.of [2,8,9,10,11,12,13]))) ?_
   refine uQ ?_
   have hx0:Ext w3 w3.drew:=hww.drew
   generalize w3.drew=wd at *
   refine zm (fun K hK=>?_) (fun K hK=>?_)
   ·go_simp
    have e2:=Blk.new wd 31 #[.int .i64 p.al,.slice C m2 d2,.slice C' m2' d2']
    replace hx0:=hx0.alloc (.cells #[.int .i64 p.al,.slice C m2 d2,.slice C' m2' d2'] 31)
    refine hK.out _ _ hx0 ?_
    generalize wd.alloc (.cells #[.int .i64 p.al,.slice C m2 d2,.slice C' m2' d2'] 31)=w4 at *
    generalize wd.heap.size=g4 at *
    refine pT ?_
    refine ze (fun K hK=>?_)
    refine wp_make w4 _ _ 128 rfl 3 _ 1 8 Tryz.underlying128 zah .i64 .i64 (k+1) ?_ ?_ (by omega) (by unfold maxLen;omega) ?_
    ·go_simp
    ·go_simp
    intro w5 ziV hx5
    rw [madeZ] at ziV
    replace hx0:=hx0.trans hx5
    replace e2:=e2.ext hx5
    refine hK.out _ _ hx0 ?_
    refine pT ?_
    refine uQ ?_
    refine zb fun K hK=>?_
    go_simp
    have hw5:=hw3.trans hx0
    refine (zhu (pn:=k) ⟨⟨_,_,HS.out _ hw5⟩,al_one e2 (HP.out _ hw5)⟩ HA.out HV.out (zeros_row ziV) HU.out.symm).mono ?_
    rintro e w6 ⟨rfl,hx6⟩
    have ziM:=hw5.trans hx6
    refine hK.out _ _ ?_
    refine pT ?_
    refine uQ ?_
    refine zf ?_
    go_wp2_with fail
    go_ret2
    exact⟨by rw [hr.out.1,hr.out.2];rfl,ziM⟩
   ·refine wp_make wd _ _ 128 rfl 3 _ 1 8 Tryz.underlying128 zah .i64 .i64 (k+1) ?_ ?_ (by omega) (by unfold maxLen;omega) ?_
    ·go_simp
    ·go_simp
    intro w5 ziV hx5
    rw [madeZ] at ziV
    replace hx0:=hx0.trans hx5
    refine hK.out _ _ hx0 ?_
    generalize wd.heap.size=g5 at *
    refine pT ?_
    refine ze fun K hK=>?_;go_simp
    have e2:=Blk.new w5 31 #[.int .i64 p.al,.slice C m2 d2,.slice C' m2' d2']
    have hx6:=(Ext.refl w5).alloc (.cells #[.int .i64 p.al,.slice C m2 d2,.slice C' m2' d2'] 31)
    replace hx0:=hx0.trans hx6
    replace ziV:=zh ziV hx6
    refine hK.out _ _ hx0 ?_
    generalize w5.alloc (.cells #[.int .i64 p.al,.slice C m2 d2,.slice C' m2' d2'] 31)=w6 at *
    generalize w5.heap.size=g4 at *
    refine pT ?_
    refine uQ ?_
    refine zb fun K hK=>?_
    go_simp
    have hw5:=hw3.trans hx0
    refine (zhu (pn:=k) ⟨⟨_,_,HS.out _ hw5⟩,al_one e2 (HP.out _ hw5)⟩ HA.out HV.out (zeros_row ziV) HU.out.symm).mono ?_
    rintro e w7 ⟨rfl,hx7⟩
    have ziM:=hw5.trans hx7
    refine hK.out _ _ ?_
    refine pT ?_
    refine uQ ?_
    refine zf ?_
    go_wp2_with fail
    go_ret2
    exact⟨by rw [hr.out.1,hr.out.2];rfl,ziM⟩
end
end Go.Proofs.YtcfchopfijalpaaGreatDoor
