/- impl.firstBr -/
import Derived.Test.YtcfchopfijalpaaGreatDoorC05
import Derived.Test.YtcfchopfijalpaaGreatDoorC02
import Derived.Test.YtcfchopfijalpaaGreatDoorC04
set_option maxHeartbeats 8000000
set_option maxRecDepth 100000
namespace Go.Proofs.YtcfchopfijalpaaGreatDoor
open Go Go.RowKit
theorem yC06d1 {P:Prop}(h:P:=by
 have Kh10:=h10.cell 0
 have Zh10:=h10.frozen 0
 refine zb fun K hK=>?_
 go_simp
 have hx2:=hx0.frm (Frm.setCell w23 g10 0 (.slice UA a.next.length uc)) (fun k hk e=>by have:=hGh10;omega)
 have hA2:=hA.set h10 (by decide) (.slice UA a.next.length uc)
 have hP2:=hP.set h10 (by decide) (.slice UA a.next.length uc)
 have h102:Blk (w23.setCell ⟨g10,0,none⟩ (.slice UA a.next.length uc)) g10 177 #[.slice UA a.next.length uc]:=by simpa using h10.set_ 0 (.slice UA a.next.length uc)
 have h112:=h11.far (p:=⟨g10,0,none⟩) (by first|exact hne|exact hne.symm) (.slice UA a.next.length uc)
 refine hK.out _ _ ?_
 refine pT ?_
 clear hA hP h10 h11 Kh10 Zh10 hx0
 generalize w23.setCell ⟨g10,0,none⟩ (.slice UA a.next.length uc)=w24 at *
 have hA:=hA2;have hP:=hP2;have h10:=h102;have h11:=h112;have hx0:=hx2
 clear hA2 hP2 h102 h112 hx2
 have Kh11:=h11.cell 0
 have Zh11:=h11.frozen 0
 refine zb fun K hK=>?_
 go_simp
 have hx2:=hx0.frm (Frm.setCell w24 g11 0 (.slice RA p.next.length rc)) (fun k hk e=>by have:=hGh11;omega)
 have hA2:=hA.set h11 (by decide) (.slice RA p.next.length rc)
 have hP2:=hP.set h11 (by decide) (.slice RA p.next.length rc)
 have h112:Blk (w24.setCell ⟨g11,0,none⟩ (.slice RA p.next.length rc)) g11 177 #[.slice RA p.next.length rc]:=by simpa using h11.set_ 0 (.slice RA p.next.length rc)
 have h102:=h10.far (p:=⟨g11,0,none⟩) (by first|exact hne|exact hne.symm) (.slice RA p.next.length rc)
 refine hK.out _ _ ?_
 refine pT ?_
 clear hA hP h10 h11 Kh11 Zh11 hx0
 generalize w24.setCell ⟨g11,0,none⟩ (.slice RA p.next.length rc)=w25 at *
 have hA:=hA2;have hP:=hP2;have h10:=h102;have h11:=h112;have hx0:=hx2
 clear hA2 hP2 h102 h112 hx2
 refine zf ?_
 go_wp2_with fail
 go_meet
 exact⟨g10,g11,UA,RA,uc,rc,rfl,rfl,hx0,h10,h11,hA,hP⟩
 ):P:=h
theorem yC06c1 {P:Prop}(h:P:=by
 refine zb fun K hK=>?_
 go_simp
 refine (hTP.out _ hx0).mono ?_
 rintro e w23 ⟨RA,rc,rfl,hP,hx1⟩
 replace hx0:=hx0.trans hx1
 replace h10:=h10.ext hx1
 replace h11:=h11.ext hx1
 replace hA:=hA.ext hx1
 clear hx1
 refine hK.out _ _ ?_
 refine pT ?_
 exact yC06d1
 ):P:=h
theorem yC06b1 {P:Prop}(h:P:=by
 refine ze fun K hK=>?_;go_simp
 refine (hTA.out _ hx0).mono ?_
 rintro e w22 ⟨UA,uc,rfl,hA,hx1⟩
 replace hx0:=hx0.trans hx1
 replace h10:=h10.ext hx1
 replace h11:=h11.ext hx1
 clear hx1
 refine hK.out _ _ hx0 ?_
 refine pT ?_
 exact yC06c1
 ):P:=h
theorem yC06c2 {P:Prop}(h:P:=by
 exact yC06d1
 ):P:=h
theorem yC06b3 {P:Prop}(h:P:=by
 refine ze fun K hK=>?_;go_simp
 have hne:=Nat.ne_of_lt h11.lt
 have hGh10:=hx0.size
 have hx1:=(Ext.refl w22).alloc (.cells #[.slice none 0 0] 177)
 replace hx0:=hx0.trans hx1
 replace h11:=h11.ext hx1
 replace hA:=hA.ext hx1
 replace hP:=hP.ext hx1
 clear hx1
 have h10:=Blk.new w22 177 #[.slice none 0 0]
 refine hK.out _ _ hx0 ?_
 refine pT ?_
 generalize w22.alloc (.cells #[.slice none 0 0] 177)=w23 at *
 generalize w22.heap.size=g10 at *
 exact yC06c2
 ):P:=h
theorem yC06b4 {P:Prop}(h:P:=by
 exact yC06c1
 ):P:=h
theorem reads_blk {w:World} {g lo hi:Nat} {t:TypeId} {v:Value}(h:Blk w g t #[v])(h1:lo≤g)(h2:g<hi):Reads w lo hi 1 (some ⟨g,0,none⟩) 1 [v]:=
 ⟨rfl,by omega,fun _=>⟨_,rfl,h1,h2,fun j u hu=>by
  rw [zaE,Nat.zero_add,h.cell]
  simpa using hu⟩⟩
theorem yC06a1 {P:Prop}(h:P:=by
 refine zm (fun K hK=>?_) (fun K hK=>?_)
 ·go_simp
  refine (hTA.out _ hx0).mono ?_
  rintro e w21 ⟨UA,uc,rfl,hA,hx1⟩
  replace hx0:=hx0.trans hx1
  replace h11:=h11.ext hx1
  clear hx1
  refine hK.out _ _ hx0 ?_
  refine pT ?_
  refine zm (fun K hK=>?_) (fun K hK=>?_)
  ·go_simp
   refine (hTP.out _ hx0).mono ?_
   rintro e w22 ⟨RA,rc,rfl,hP,hx1⟩
   replace hx0:=hx0.trans hx1
   replace h11:=h11.ext hx1
   replace hA:=hA.ext hx1
   clear hx1
   refine hK.out _ _ hx0 ?_
   refine pT ?_
   exact yC06b3
  ·go_simp
   have hne:=Nat.ne_of_lt h11.lt
   have hGh10:=hx0.size
   have hx1:=(Ext.refl w21).alloc (.cells #[.slice none 0 0] 177)
   replace hx0:=hx0.trans hx1
   replace h11:=h11.ext hx1
   replace hA:=hA.ext hx1
   clear hx1
   have h10:=Blk.new w21 177 #[.slice none 0 0]
   refine hK.out _ _ hx0 ?_
   refine pT ?_
   generalize w21.alloc (.cells #[.slice none 0 0] 177)=w22 at *
   generalize w21.heap.size=g10 at *
   exact yC06b4
 ·go_simp
  have hne:=Nat.ne_of_lt h11.lt
  have hGh10:=hx0.size
  have hx1:=(Ext.refl w20).alloc (.cells #[.slice none 0 0] 177)
  replace hx0:=hx0.trans hx1
  replace h11:=h11.ext hx1
  clear hx1
  have h10:=Blk.new w20 177 #[.slice none 0 0]
  refine hK.out _ _ hx0 ?_
  refine pT ?_
  generalize w20.alloc (.cells #[.slice none 0 0] 177)=w21 at *
  generalize w20.heap.size=g10 at *
  exact yC06b1
 ):P:=h
theorem yC06b2 {P:Prop}(h:P:=by
 refine ze fun K hK=>?_;go_simp
 have hne:=Nat.ne_of_lt h10.lt
 have hGh11:=hx0.size
 have hx1:=(Ext.refl w22).alloc (.cells #[.slice none 0 0] 177)
 replace hx0:=hx0.trans hx1
 replace h10:=h10.ext hx1
 replace hA:=hA.ext hx1
 replace hP:=hP.ext hx1
 clear hx1
 have h11:=Blk.new w22 177 #[.slice none 0 0]
 refine hK.out _ _ hx0 ?_
 refine pT ?_
 generalize w22.alloc (.cells #[.slice none 0 0] 177)=w23 at *
 generalize w22.heap.size=g11 at *
 exact yC06c2
 ):P:=h
theorem yC06a2 {P:Prop}(h:P:=by
 refine zm (fun K hK=>?_) (fun K hK=>?_)
 ·go_simp
  refine (hTA.out _ hx0).mono ?_
  rintro e w21 ⟨UA,uc,rfl,hA,hx1⟩
  replace hx0:=hx0.trans hx1
  replace h10:=h10.ext hx1
  clear hx1
  refine hK.out _ _ hx0 ?_
  refine pT ?_
  refine zm (fun K hK=>?_) (fun K hK=>?_)
  ·go_simp
   refine (hTP.out _ hx0).mono ?_
   rintro e w22 ⟨RA,rc,rfl,hP,hx1⟩
   replace hx0:=hx0.trans hx1
   replace h10:=h10.ext hx1
   replace hA:=hA.ext hx1
   clear hx1
   refine hK.out _ _ hx0 ?_
   refine pT ?_
   exact yC06b2
  ·go_simp
   have hne:=Nat.ne_of_lt h10.lt
   have hGh11:=hx0.size
   have hx1:=(Ext.refl w21).alloc (.cells #[.slice none 0 0] 177)
   replace hx0:=hx0.trans hx1
   replace h10:=h10.ext hx1
   replace hA:=hA.ext hx1
   clear hx1
   have h11:=Blk.new w21 177 #[.slice none 0 0]
   refine hK.out _ _ hx0 ?_
   refine pT ?_
   generalize w21.alloc (.cells #[.slice none 0 0] 177)=w22 at *
   generalize w21.heap.size=g11 at *
   exact yC06b4
 ·go_simp
  have hne:=Nat.ne_of_lt h10.lt
  have hGh11:=hx0.size
  have hx1:=(Ext.refl w20).alloc (.cells #[.slice none 0 0] 177)
  replace hx0:=hx0.trans hx1
  replace h10:=h10.ext hx1
  clear hx1
  have h11:=Blk.new w20 177 #[.slice none 0 0]
  refine hK.out _ _ hx0 ?_
  refine pT ?_
  generalize w20.alloc (.cells #[.slice none 0 0] 177)=w21 at *
  generalize w20.heap.size=g11 at *
  exact yC06b1
 ):P:=h
theorem yC06c3 {P:Prop}(h:P:=by
 refine zb fun K hK=>?_
 go_simp
 refine (key.out _ hx0 _ _ _ _ _ hI hIL).mono ?_
 rintro e w23 ⟨hx1,hcase⟩
 have hx2:=hw9.trans (hx0.trans hx1)
 rcases hcase with ⟨v,rfl,hF⟩|⟨rfl,hF⟩
 ·have hres:=za (show zJ w (zbC ss a p) [0] (zbs a p) (letters (U|||al) 6) _ w23 from ⟨hx2,Or.inl ⟨v,rfl,hF⟩⟩)
  refine hK.out _ _ ?_
  refine pT ?_
  refine uQ ?_
  refine zf ?_
  go_wp2_with fail
  go_ret2
  exact hres.out
 ·have hres:=za (show zJ w (zbC ss a p) [0] (zbs a p) (letters (U|||al) 6) _ w23 from ⟨hx2,Or.inr ⟨rfl,hF⟩⟩)
  refine hK.out _ _ ?_
  refine pT ?_
  refine uQ ?_
  refine zf ?_
  go_wp2_with fail
  go_ret2
  exact hres.out
 ):P:=h
theorem yC06b6 {P:Prop}(h:P:=by
 exact yC06c3
 ):P:=h
theorem yC06a3 {P:Prop}(h:P:=by
 refine hK.out _ _ hx0 ?_
 refine pT ?_
 refine uQ ?_
 refine zm (fun K hK=>?_) (fun K hK=>?_)
 ·go_simp
  have hI:=zcL (x:=0) (Blk.new w20 3 #[.int .i64 ((0:Nat):Int)])
  have hx1:=(Ext.refl w20).alloc (.cells #[.int .i64 ((0:Nat):Int)] 3)
  replace hx0:=hx0.trans hx1
  clear hx1
  refine hK.out _ _ hx0 ?_
  refine pT ?_
  generalize w20.alloc (.cells #[.int .i64 ((0:Nat):Int)] 3)=w21 at *
  generalize w20.heap.size=g1 at *
  refine ze fun K hK=>?_;go_simp
  refine (hLT.out w21).mono ?_
  rintro e w22 ⟨AL,cL,rfl,hownL,hx1⟩
  have hIL:=zad.own hownL
  clear hownL
  replace hx0:=hx0.trans hx1
  replace hI:=hI.ext hx1
  clear hx1
  refine hK.out _ _ hx0 ?_
  refine pT ?_
  exact yC06b6
 ·go_simp
  refine (hLT.out w20).mono ?_
  rintro e w21 ⟨AL,cL,rfl,hownL,hx1⟩
  have hIL:=zad.own hownL
  clear hownL
  replace hx0:=hx0.trans hx1
  clear hx1
  refine hK.out _ _ hx0 ?_
  refine pT ?_
  refine ze fun K hK=>?_;go_simp
  have hI:=zcL (x:=0) (Blk.new w21 3 #[.int .i64 ((0:Nat):Int)])
  have hx1:=(Ext.refl w21).alloc (.cells #[.int .i64 ((0:Nat):Int)] 3)
  replace hx0:=hx0.trans hx1
  replace hIL:=hIL.ext hx1
  clear hx1
  refine hK.out _ _ hx0 ?_
  refine pT ?_
  generalize w21.alloc (.cells #[.int .i64 ((0:Nat):Int)] 3)=w22 at *
  generalize w21.heap.size=g1 at *
  exact yC06b6
 ):P:=h
theorem yC06a4 {P:Prop}(h:P:=by
 refine ze fun K hK=>?_;go_simp
 refine hK.out _ _ hx0 ?_
 refine pT ?_
 refine uQ ?_
 exact yC06b1
 ):P:=h
theorem yC06a5 {P:Prop}(h:P:=by
 exact yC06b2
 ):P:=h
theorem yC06a6 {P:Prop}(h:P:=by
 exact yC06b3
 ):P:=h
theorem yC06a7 {P:Prop}(h:P:=by
 exact yC06b4
 ):P:=h
theorem yC06a8 {P:Prop}(h:P:=by
 have Kh12:=h12.cell 0
 have Zh12:=h12.frozen 0
 refine ze fun K hK=>?_;go_simp
 have hx2:=hx0.frm (Frm.setCell w21 g12 0 (.int .i64 (a.next.length:Nat))) (fun k hk e=>by have:=hGh12;omega)
 have h122:Blk (w21.setCell ⟨g12,0,none⟩ (.int .i64 (a.next.length:Nat))) g12 3 #[.int .i64 (a.next.length:Nat)]:=by simpa using h12.set_ 0 (.int .i64 (a.next.length:Nat))
 have h132:=h13.far (p:=⟨g12,0,none⟩) (by first|exact hne|exact hne.symm) (.int .i64 (a.next.length:Nat))
 refine hK.out _ _ hx2 ?_
 refine pT ?_
 clear h12 h13 Kh12 Zh12 hx0
 generalize w21.setCell ⟨g12,0,none⟩ (.int .i64 (a.next.length:Nat))=w22 at *
 have h12:=h122;have h13:=h132;have hx0:=hx2
 clear h122 h132 hx2
 have Kh13:=h13.cell 0
 have Zh13:=h13.frozen 0
 refine zb fun K hK=>?_
 go_simp
 have hx2:=hx0.frm (Frm.setCell w22 g13 0 (.int .i64 (p.next.length:Nat))) (fun k hk e=>by have:=hGh13;omega)
 have h132:Blk (w22.setCell ⟨g13,0,none⟩ (.int .i64 (p.next.length:Nat))) g13 3 #[.int .i64 (p.next.length:Nat)]:=by simpa using h13.set_ 0 (.int .i64 (p.next.length:Nat))
 have h122:=h12.far (p:=⟨g13,0,none⟩) (by first|exact hne|exact hne.symm) (.int .i64 (p.next.length:Nat))
 refine hK.out _ _ ?_
 refine pT ?_
 clear h12 h13 Kh13 Zh13 hx0
 generalize w22.setCell ⟨g13,0,none⟩ (.int .i64 (p.next.length:Nat))=w23 at *
 have h12:=h122;have h13:=h132;have hx0:=hx2
 clear h122 h132 hx2
 refine zf ?_
 go_wp2_with fail
 go_meet
 exact⟨g12,g13,rfl,rfl,hx0,h12,h13⟩
 ):P:=h
theorem yC06b5 {P:Prop}(h:P:=by
 refine hK.out _ _ hx0 ?_
 refine pT ?_
 refine uQ ?_
 refine ze fun K hK=>?_;go_simp
 refine (hLT.out w21).mono ?_
 rintro e w22 ⟨AL,cL,rfl,hownL,hx1⟩
 have hIL:=zad.own hownL
 clear hownL
 replace hx0:=hx0.trans hx1
 replace hI:=hI.ext hx1
 clear hx1
 refine hK.out _ _ hx0 ?_
 refine pT ?_
 exact yC06c3
 ):P:=h
theorem yC06a9 {P:Prop}(h:P:=by
 refine ze fun K hK=>?_;go_simp
 refine (hSZ.out _ hx0).mono ?_
 rintro e w21 ⟨rfl,hx1⟩
 replace hx0:=hx0.trans hx1
 replace hI:=hI.ext hx1
 clear hx1
 exact yC06b5
 ):P:=h
theorem yC06a10 {P:Prop}(h:P:=by
 refine ze fun K hK=>?_;go_simp
 exact yC06b5
 ):P:=h
theorem zec {lo hi k c:Nat} {A:Option Addr} {ss:List Sys} {C:Option Addr} {m2 d2:Nat} {C':Option Addr} {m2' d2' lo2 hi2:Nat} {p:Aut} {w:World}
  (h:zha w lo hi A k ss) (hap:zA ss=true) (hT:Tab w) (hP0:zC w lo2 hi2 C m2 C' m2' p) (hp:zk p=true) :
  Calls Tryz.prog 102 #[.slice A k c,.pointer none,.agg #[.int .i64 p.al,.slice C m2 d2,.slice C' m2' d2']] w (zJ w (zbC ss free p) [0] (zbs free p) (letters (zD ss|||free.al.toNat) 6)):=by
 have hv:=zcZ
 obtain⟨a,hfa⟩:∃ a,Hid (a=free):=⟨_,rfl⟩
 rw [← hfa.out] at hv ⊢
 have hsv:∀ s∈ss,zn s=true:=by
  unfold zA at hap
  simp only [Bool.and_eq_true,List.all_eq_true] at hap
  exact hap.2.2
 have hk3:k≤3:=by
  unfold zA at hap
  simp only [Bool.and_eq_true,decide_eq_true_eq] at hap
  have:=h.1
  omega
 have hsl:=za (fun (s:Sys) (hs:s∈ss)=>zbQ (hsv s hs))
 have hf16:=za (fun (s:Sys) (hs:s∈ss)=>show Few 16 s.edges from by
  obtain⟨q,_,_,hq,hf⟩:=zdQ (hsv s hs)
  exact fun e he=>by have:=hf e he;omega)
 have hU:zD ss≤63:=by
  have key:∀ l:List Sys,(∀ s∈l,zn s=true)→zD l≤63:=by
   intro l hl
   have:∀ n,zD (l.take n)≤63:=by
    intro n
    induction n with
    |zero=>simp [zD]
    |succ n ih =>
     rcases Nat.lt_or_ge n l.length with h1|h1
     ·rw [zcD (List.getElem?_eq_getElem h1)]
      have:=zN (hl _ (List.getElem_mem h1))
      have:=Nat.or_lt_two_pow (n:=6) (x:=zD (l.take n)) (y:=l[n].al.toNat) (by omega) (by omega)
      omega
     ·rw [List.take_of_length_le (by omega)]
      rw [List.take_of_length_le h1] at ih
      exact ih
   have h2:=this l.length
   rwa [List.take_length] at h2
  exact key ss hsv
 have hal:=(zl hv).1
 obtain⟨al,hale⟩:∃ al:Nat,Hid (a.al=al):=⟨a.al.toNat,by unfold Hid;omega⟩
 have hal6:al≤63:=by have:=hale.out;omega
 have hpa:=za (show zbI ss=(zD ss:Int) by unfold zbI;rw [hap];rfl)
 have hap3:=za (show a.al.toNat=al by have:=hale.out;omega)
 have hpal:=za (show 0≤p.al∧p.al≤63 from (zl hp).1)
 rw [hap3.out]
 have HS:=za (fun W (hW:Ext w W)=>h.ext hW)
 have HT:=za (fun W (hW:Ext w W)=>hT.ext hW)
 have HP:=za (fun W (hW:Ext w W)=>hP0.ext hW)
 have Hv:=za hv
 have Hp:=za hp
 generalize hUe:zD ss=U at *
 have HU:=za hUe
 clear hUe h hT hP0 hv hp hap hsv hal
 go_enter Tryz.func102,Tryz.ntmps102
 go_upto_region 1 with fail
 have hw2:Ext w ((w.alloc (.cells #[.pointer none] 187)).alloc (.cells #[.int .i64 p.al,.slice C m2 d2,.slice C' m2' d2'] 31)):=((Ext.refl w).alloc _).alloc _
 obtain⟨b4,b5⟩:=zE (Ext.refl ((w.alloc (.cells #[.pointer none] 187)).alloc (.cells #[.int .i64 p.al,.slice C m2 d2,.slice C' m2' d2'] 31)))
 generalize (w.alloc (.cells #[.pointer none] 187)).alloc (.cells #[.int .i64 p.al,.slice C m2 d2,.slice C' m2' d2'] 31)=w2 at *
 go_upto_region 2 with (go_at_call 178;refine (zeU (HS.out _ hw2) hf16.out (by omega)).mono ?_;rintro e w3 ⟨M,dm,rfl,hpt,hx3⟩)
 have hw3:=hw2.trans hx3
 have b8:=Blk.new w3 204 #[.slice A k c,.slice M k dm]
 have hx4:=hx3.alloc (.cells #[.slice A k c,.slice M k dm] 204)
 have hpt4:=hpt.ext ((Ext.refl w3).alloc (.cells #[.slice A k c,.slice M k dm] 204))
 have hg8n:w2.heap.size≤w3.heap.size:=hx3.size
 generalize hg8:w3.heap.size=g8 at *
 clear hpt hg8
 generalize w3.alloc (.cells #[.slice A k c,.slice M k dm] 204)=w4 at *
 have hw4:=hw2.trans hx4
 clear hw3 hx3
 go_upto_region 3 with (go_at_call 104;refine (zcH (HS.out _ hw4)).mono ?_;rw [hpa.out];rintro e w5 ⟨rfl,hx5⟩)
 have b45:=b4.ext (hx4.trans hx5)
 have b55:=b5.ext (hx4.trans hx5)
 have b85:=b8.ext hx5
 have hpt5:=hpt4.ext hx5
 have hw5':=hw4.trans hx5
 have hs25:=(hx4.trans hx5).size
 have hl2:=b5.lt
 have hg8':=b8.lt
 have hs2g:w2.heap.size≤g8:=hg8n
 have k4:=b45.cell 0
 have z4:=b45.frozen 0
 clear hx4 hx5 b4 b5 b8 hpt4 hw2 hw4
 go_upto_region 4 with fail
 clear k4 z4
 have hn1:=Blk.new w5 128 #[.slice none 0 0]
 have hm1:=(Ext.refl w5).alloc (.cells #[.slice none 0 0] 128)
 have hs1:(w5.alloc (.cells #[.slice none 0 0] 128)).heap.size=w5.heap.size+1:=by simp
 have hn2:=Blk.new (w5.alloc (.cells #[.slice none 0 0] 128)) 4 #[.bool true]
 rw [hs1] at hn2
 have hm2:=(Ext.refl (w5.alloc (.cells #[.slice none 0 0] 128))).alloc (.cells #[.bool true] 4)
 have hs2:((w5.alloc (.cells #[.slice none 0 0] 128)).alloc (.cells #[.bool true] 4)).heap.size=w5.heap.size+1+1:=by simp
 have hn3:=Blk.new ((w5.alloc (.cells #[.slice none 0 0] 128)).alloc (.cells #[.bool true] 4)) 31 #[.int .i64 0,.slice (some ⟨w5.heap.size,0,none⟩) 1 1,.slice (some ⟨w5.heap.size+1,0,none⟩) 1 1]
 rw [hs2] at hn3
 have hm3:=(Ext.refl ((w5.alloc (.cells #[.slice none 0 0] 128)).alloc (.cells #[.bool true] 4))).alloc (.cells #[.int .i64 0,.slice (some ⟨w5.heap.size,0,none⟩) 1 1,.slice (some ⟨w5.heap.size+1,0,none⟩) 1 1] 31)
 replace hn1:=hn1.ext (hm2.trans hm3)
 replace hn2:=hn2.ext hm3
 have hm:=hm1.trans (hm2.trans hm3)
 have b46:=b45.ext hm
 have b56:=b55.ext hm
 have b86:=b85.ext hm
 have hpt6:=hpt5.ext hm
 have k4:=b46.cell 0
 have z4:=b46.frozen 0
 have hw6:=hw5'.trans hm
 clear hm1 hm2 hm3 hm hs1 hs2 b45 b55 b85 hpt5
 go_upto_region 5 with fail
 have hgz:w.heap.size<w5.heap.size:=by have:=hw5'.size;omega
 generalize w5.heap.size=z1 at *
 generalize ((w5.alloc (.cells #[.slice none 0 0] 128)).alloc (.cells #[.bool true] 4)).alloc (.cells #[.int .i64 0,.slice (some ⟨z1,0,none⟩) 1 1,.slice (some ⟨z1+1,0,none⟩) 1 1] 31)=w6 at *
 have hset:=Frm.setCell w6 w.heap.size 0 (.pointer (some ⟨z1+1+1,0,none⟩))
 have b47:Blk (w6.setCell ⟨w.heap.size,0,none⟩ (.pointer (some ⟨z1+1+1,0,none⟩))) w.heap.size 187 #[.pointer (some ⟨z1+1+1,0,none⟩)]:=by simpa using b46.set_ 0 (.pointer (some ⟨z1+1+1,0,none⟩))
 have b57:=b56.frm hset (by omega)
 have b87:=b86.frm hset (by omega)
 have hn17:=hn1.frm hset (by omega)
 have hn27:=hn2.frm hset (by omega)
 have hn37:=hn3.frm hset (by omega)
 have hw7:=hw6.frm hset (fun k hk e=>by omega)
 have hpt7:PtAt (w6.setCell ⟨w.heap.size,0,none⟩ (.pointer (some ⟨z1+1+1,0,none⟩))) lo hi A k w2.heap.size g8 M ss:=by
  obtain⟨bs,hr,hmv⟩:=hpt6.mov
  exact⟨HS.out _ hw7,bs,hr.frm hset (fun k h1 h2 e=>by omega),hmv.frm hset (fun b cs hB e=>by
   subst e
   exact absurd rfl (hB.ne b46 (by decide)))⟩
 clear hn1 hn2 hn3 b46 b56 b86 hpt6 hset k4 z4
 generalize w6.setCell ⟨w.heap.size,0,none⟩ (.pointer (some ⟨z1+1+1,0,none⟩))=w5 at *
 obtain⟨ga,B,m1,d1,B',m1',d1',lo1,hi1,hB4z,hGa,hAa⟩:∃ (ga:Nat) (B:Option Addr) (m1 d1:Nat) (B':Option Addr) (m1' d1' lo1 hi1:Nat),Blk w5 w.heap.size 187 #[.pointer (some ⟨ga,0,none⟩)]∧Blk w5 ga 31 #[.int .i64 a.al,.slice B m1 d1,.slice B' m1' d1']∧zC w5 lo1 hi1 B m1 B' m1' a:=by
  refine⟨z1+1+1,some ⟨z1,0,none⟩,1,1,some ⟨z1+1,0,none⟩,1,1,z1,z1+2,b47,by rw [hfa.out];exact hn37,?_⟩
  rw [hfa.out]
  refine⟨⟨rfl,[.slice none 0 0],reads_blk hn17 (Nat.le_refl _) (by omega),rfl,fun i row l hr hl=>?_⟩,rfl,reads_blk hn27 (by omega) (by omega)⟩
  cases i with
  |zero =>
   simp at hr
   simp [free] at hl
   subst hr;subst hl
   exact⟨none,0,rfl,Reads.nil⟩
  |succ i=>simp at hr
 have hB4:=za (fun W (hW:Ext w5 W)=>hB4z.ext hW)
 have hB5:=za (fun W (hW:Ext w5 W)=>b57.ext hW)
 have hB8:=za (fun W (hW:Ext w5 W)=>b87.ext hW)
 have hPT:=za (fun W (hW:Ext w5 W)=>hpt7.ext hW)
 have HGA5:=za (fun W (hW:Ext w5 W)=>hGa.ext hW)
 have HA5:=za (fun W (hW:Ext w5 W)=>hAa.ext hW)
 have hw5:=hw7
 clear hw7 hw6 hw5' hn17 hn27 hn37 b47 b57 b87 hpt7 hGa hAa hB4z hgz hg8' hg8n hs2g hl2 hs25
 go_cut [10,11] (fun v10 v11 wx=>∃ (g10 g11:Nat) (UA RA:Option Addr) (uc rc:Nat),v10=.pointer (some ⟨g10,0,none⟩)∧v11=.pointer (some ⟨g11,0,none⟩)∧Ext w5 wx∧Blk wx g10 177 #[.slice UA a.next.length uc]∧Blk wx g11 177 #[.slice RA p.next.length rc]∧TbO wx UA uc a∧TbO wx RA rc p)
 case first =>
  have c4:∀ W,Ext w5 W→W.cell? ⟨w.heap.size,0,none⟩=some (.pointer (some ⟨ga,0,none⟩)):=fun W hW=>by rw [(hB4.out W hW).cell];rfl
  have ca:∀ W,Ext w5 W→∀ j,W.cell? ⟨ga,j,none⟩=#[Value.int .i64 a.al,.slice B m1 d1,.slice B' m1' d1'][j]?:=fun W hW=>(HGA5.out W hW).cell
  have c5:∀ W,Ext w5 W→∀ j,W.cell? ⟨w.heap.size+1,j,none⟩=#[Value.int .i64 p.al,.slice C m2 d2,.slice C' m2' d2'][j]?:=fun W hW=>(hB5.out W hW).cell
  have hTA:=za (fun W (hW:Ext w5 W)=>zcJ (d:=d1) (d':=d1') (HA5.out W hW) Hv.out)
  have hTP:=za (fun W (hW:Ext w5 W)=>zcJ (d:=d2) (d':=d2') (HP.out W (hw5.trans hW)) Hp.out)
  have hww:=Ext.refl w5
  refine uR (fun X=>Ext w5 X) [5,8,9] (zu.app [0,4] (zu.three 1 (zu.app [2] (zu.three 3 (zu.three 5 (zu.two 6 (zu.of [7,8,9]) 7 (zu.of [6,8,9])) 6 (zu.two 5 (zu.of [7,8,9]) 7 (zu.of [5,8,9])) 7 (zu.two 5 (zu.of [6,8,9]) 6 (zu.of [5,8,9]))) 6 (zu.two 3 (zu.two 5 (zu.of [7,8,9]) 7 (zu.of [5,8,9])) 7 (zu.of [3,5,8,9])) 7 (zu.two 3 (zu.two 5 (zu.of [6,8,9]) 6 (zu.of [5,8,9])) 6 (zu.of [3,5,8,9])))) 6 (zu.two 1 (zu.app [2] (zu.two 3 (zu.two 5 (zu.of [7,8,9]) 7 (zu.of [5,8,9])) 7 (zu.of [3,5,8,9]))) 7 (zu.of [1,2,3,5,8,9])) 7 (zu.two 1 (zu.app [2] (zu.two 3 (zu.two 5 (zu.of [6,8,9]) 6 (zu.of [5,8,9])) 6 (zu.of [3,5,8,9]))) 6 (zu.of [1,2,3,5,8,9])))) ?_
  refine uQ ?_
  have hx0:Ext w5 w5.drew:=hww.drew
  generalize w5.drew=wd at *
  refine uQ ?_
  refine zay (fun K hK=>?_) (fun K hK=>?_) (fun K hK=>?_)
  ·go_simp
   refine hK.out _ _ hx0 ?_
   refine pT ?_
   refine uQ ?_
   refine zay (fun K hK=>?_) (fun K hK=>?_) (fun K hK=>?_)
   ·go_simp
    refine (hTA.out _ hx0).mono ?_
    rintro e w20 ⟨UA,uc,rfl,hA,hx1⟩
    replace hx0:=hx0.trans hx1
    clear hx1
    refine hK.out _ _ hx0 ?_
    refine pT ?_
    refine zay (fun K hK=>?_) (fun K hK=>?_) (fun K hK=>?_)
    ·go_simp
     refine (hTP.out _ hx0).mono ?_
     rintro e w21 ⟨RA,rc,rfl,hP,hx1⟩
     replace hx0:=hx0.trans hx1
     replace hA:=hA.ext hx1
     clear hx1
     refine hK.out _ _ hx0 ?_
     refine pT ?_
     refine zm (fun K hK=>?_) (fun K hK=>?_)
     ·go_simp
      have hGh10:=hx0.size
      have hx1:=(Ext.refl w21).alloc (.cells #[.slice none 0 0] 177)
      replace hx0:=hx0.trans hx1
      replace hA:=hA.ext hx1
      replace hP:=hP.ext hx1
      clear hx1
      have h10:=Blk.new w21 177 #[.slice none 0 0]
      refine hK.out _ _ hx0 ?_
      refine pT ?_
      generalize w21.alloc (.cells #[.slice none 0 0] 177)=w22 at *
      generalize w21.heap.size=g10 at *
      exact yC06a5
     ·go_simp
      have hGh11:=hx0.size
      have hx1:=(Ext.refl w21).alloc (.cells #[.slice none 0 0] 177)
      replace hx0:=hx0.trans hx1
      replace hA:=hA.ext hx1
      replace hP:=hP.ext hx1
      clear hx1
      have h11:=Blk.new w21 177 #[.slice none 0 0]
      refine hK.out _ _ hx0 ?_
      refine pT ?_
      generalize w21.alloc (.cells #[.slice none 0 0] 177)=w22 at *
      generalize w21.heap.size=g11 at *
      exact yC06a6
    ·go_simp
     have hGh10:=hx0.size
     have hx1:=(Ext.refl w20).alloc (.cells #[.slice none 0 0] 177)
     replace hx0:=hx0.trans hx1
     replace hA:=hA.ext hx1
     clear hx1
     have h10:=Blk.new w20 177 #[.slice none 0 0]
     refine hK.out _ _ hx0 ?_
     refine pT ?_
     generalize w20.alloc (.cells #[.slice none 0 0] 177)=w21 at *
     generalize w20.heap.size=g10 at *
     refine zm (fun K hK=>?_) (fun K hK=>?_)
     ·go_simp
      refine (hTP.out _ hx0).mono ?_
      rintro e w22 ⟨RA,rc,rfl,hP,hx1⟩
      replace hx0:=hx0.trans hx1
      replace h10:=h10.ext hx1
      replace hA:=hA.ext hx1
      clear hx1
      refine hK.out _ _ hx0 ?_
      refine pT ?_
      exact yC06a5
     ·go_simp
      have hne:=Nat.ne_of_lt h10.lt
      have hGh11:=hx0.size
      have hx1:=(Ext.refl w21).alloc (.cells #[.slice none 0 0] 177)
      replace hx0:=hx0.trans hx1
      replace h10:=h10.ext hx1
      replace hA:=hA.ext hx1
      clear hx1
      have h11:=Blk.new w21 177 #[.slice none 0 0]
      refine hK.out _ _ hx0 ?_
      refine pT ?_
      generalize w21.alloc (.cells #[.slice none 0 0] 177)=w22 at *
      generalize w21.heap.size=g11 at *
      exact yC06a7
    ·go_simp
     have hGh11:=hx0.size
     have hx1:=(Ext.refl w20).alloc (.cells #[.slice none 0 0] 177)
     replace hx0:=hx0.trans hx1
     replace hA:=hA.ext hx1
     clear hx1
     have h11:=Blk.new w20 177 #[.slice none 0 0]
     refine hK.out _ _ hx0 ?_
     refine pT ?_
     generalize w20.alloc (.cells #[.slice none 0 0] 177)=w21 at *
     generalize w20.heap.size=g11 at *
     refine zm (fun K hK=>?_) (fun K hK=>?_)
     ·go_simp
      refine (hTP.out _ hx0).mono ?_
      rintro e w22 ⟨RA,rc,rfl,hP,hx1⟩
      replace hx0:=hx0.trans hx1
      replace h11:=h11.ext hx1
      replace hA:=hA.ext hx1
      clear hx1
      refine hK.out _ _ hx0 ?_
      refine pT ?_
      exact yC06a6
     ·go_simp
      have hne:=Nat.ne_of_lt h11.lt
      have hGh10:=hx0.size
      have hx1:=(Ext.refl w21).alloc (.cells #[.slice none 0 0] 177)
      replace hx0:=hx0.trans hx1
      replace h11:=h11.ext hx1
      replace hA:=hA.ext hx1
      clear hx1
      have h10:=Blk.new w21 177 #[.slice none 0 0]
      refine hK.out _ _ hx0 ?_
      refine pT ?_
      generalize w21.alloc (.cells #[.slice none 0 0] 177)=w22 at *
      generalize w21.heap.size=g10 at *
      exact yC06a7
   ·go_simp
    have hGh10:=hx0.size
    have hx1:=(Ext.refl wd).alloc (.cells #[.slice none 0 0] 177)
    replace hx0:=hx0.trans hx1
    clear hx1
    have h10:=Blk.new wd 177 #[.slice none 0 0]
    refine hK.out _ _ hx0 ?_
    refine pT ?_
    generalize wd.alloc (.cells #[.slice none 0 0] 177)=w20 at *
    generalize wd.heap.size=g10 at *
    exact yC06a2
   ·go_simp
    have hGh11:=hx0.size
    have hx1:=(Ext.refl wd).alloc (.cells #[.slice none 0 0] 177)
    replace hx0:=hx0.trans hx1
    clear hx1
    have h11:=Blk.new wd 177 #[.slice none 0 0]
    refine hK.out _ _ hx0 ?_
    refine pT ?_
    generalize wd.alloc (.cells #[.slice none 0 0] 177)=w20 at *
    generalize wd.heap.size=g11 at *
    exact yC06a1
  ·go_simp
   have hGh10:=hx0.size
   have hx1:=(Ext.refl wd).alloc (.cells #[.slice none 0 0] 177)
   replace hx0:=hx0.trans hx1
   clear hx1
   have h10:=Blk.new wd 177 #[.slice none 0 0]
   refine hK.out _ _ hx0 ?_
   refine pT ?_
   generalize wd.alloc (.cells #[.slice none 0 0] 177)=w20 at *
   generalize wd.heap.size=g10 at *
   refine zm (fun K hK=>?_) (fun K hK=>?_)
   ·go_simp
    refine hK.out _ _ hx0 ?_
    refine pT ?_
    refine uQ ?_
    exact yC06a2
   ·go_simp
    have hne:=Nat.ne_of_lt h10.lt
    have hGh11:=hx0.size
    have hx1:=(Ext.refl w20).alloc (.cells #[.slice none 0 0] 177)
    replace hx0:=hx0.trans hx1
    replace h10:=h10.ext hx1
    clear hx1
    have h11:=Blk.new w20 177 #[.slice none 0 0]
    refine hK.out _ _ hx0 ?_
    refine pT ?_
    generalize w20.alloc (.cells #[.slice none 0 0] 177)=w21 at *
    generalize w20.heap.size=g11 at *
    exact yC06a4
  ·go_simp
   have hGh11:=hx0.size
   have hx1:=(Ext.refl wd).alloc (.cells #[.slice none 0 0] 177)
   replace hx0:=hx0.trans hx1
   clear hx1
   have h11:=Blk.new wd 177 #[.slice none 0 0]
   refine hK.out _ _ hx0 ?_
   refine pT ?_
   generalize wd.alloc (.cells #[.slice none 0 0] 177)=w20 at *
   generalize wd.heap.size=g11 at *
   refine zm (fun K hK=>?_) (fun K hK=>?_)
   ·go_simp
    refine hK.out _ _ hx0 ?_
    refine pT ?_
    refine uQ ?_
    exact yC06a1
   ·go_simp
    have hne:=Nat.ne_of_lt h11.lt
    have hGh10:=hx0.size
    have hx1:=(Ext.refl w20).alloc (.cells #[.slice none 0 0] 177)
    replace hx0:=hx0.trans hx1
    replace h11:=h11.ext hx1
    clear hx1
    have h10:=Blk.new w20 177 #[.slice none 0 0]
    refine hK.out _ _ hx0 ?_
    refine pT ?_
    generalize w20.alloc (.cells #[.slice none 0 0] 177)=w21 at *
    generalize w20.heap.size=g10 at *
    exact yC06a4
 case rest =>
  obtain⟨g10,g11,UA,RA,uc,rc,rfl,rfl,hx6,h10,h11,hA,hP⟩:=hcut
  have hH10:=za (fun W (hW:Ext wc W)=>h10.ext hW)
  have hH11:=za (fun W (hW:Ext wc W)=>h11.ext hW)
  have hw6:=hw5.trans hx6
  go_upto_region 6 with fail
  go_cut [12,13] (fun v12 v13 wx=>∃ (g12 g13:Nat),v12=.pointer (some ⟨g12,0,none⟩)∧v13=.pointer (some ⟨g13,0,none⟩)∧Ext wc wx∧Blk wx g12 3 #[.int .i64 (a.next.length:Nat)]∧Blk wx g13 3 #[.int .i64 (p.next.length:Nat)])
  case first =>
   have c10:∀ W,Ext wc W→W.cell? ⟨g10,0,none⟩=some (.slice UA a.next.length uc):=fun W hW=>by rw [(hH10.out W hW).cell];rfl
   have c11:∀ W,Ext wc W→W.cell? ⟨g11,0,none⟩=some (.slice RA p.next.length rc):=fun W hW=>by rw [(hH11.out W hW).cell];rfl
   have hww:=Ext.refl wc
   clear h10 h11 hA hP
   refine uR (fun X=>Ext wc X) [7] (zu.app [0,1,2,3] (zu.two 4 (zu.of [5,6,7]) 5 (zu.of [4,6,7]))) ?_
   refine uQ ?_
   have hx0:Ext wc wc.drew:=hww.drew
   generalize wc.drew=wd at *
   refine uQ ?_
   refine zm (fun K hK=>?_) (fun K hK=>?_)
   ·go_simp
    have hGh12:=hx0.size
    have hx1:=(Ext.refl wd).alloc (.cells #[.int .i64 0] 3)
    replace hx0:=hx0.trans hx1
    clear hx1
    have h12:=Blk.new wd 3 #[.int .i64 0]
    refine hK.out _ _ hx0 ?_
    refine pT ?_
    generalize wd.alloc (.cells #[.int .i64 0] 3)=w20 at *
    generalize wd.heap.size=g12 at *
    refine ze fun K hK=>?_;go_simp
    have hne:=Nat.ne_of_lt h12.lt
    have hGh13:=hx0.size
    have hx1:=(Ext.refl w20).alloc (.cells #[.int .i64 0] 3)
    replace hx0:=hx0.trans hx1
    replace h12:=h12.ext hx1
    clear hx1
    have h13:=Blk.new w20 3 #[.int .i64 0]
    refine hK.out _ _ hx0 ?_
    refine pT ?_
    generalize w20.alloc (.cells #[.int .i64 0] 3)=w21 at *
    generalize w20.heap.size=g13 at *
    exact yC06a8
   ·go_simp
    have hGh13:=hx0.size
    have hx1:=(Ext.refl wd).alloc (.cells #[.int .i64 0] 3)
    replace hx0:=hx0.trans hx1
    clear hx1
    have h13:=Blk.new wd 3 #[.int .i64 0]
    refine hK.out _ _ hx0 ?_
    refine pT ?_
    generalize wd.alloc (.cells #[.int .i64 0] 3)=w20 at *
    generalize wd.heap.size=g13 at *
    refine ze fun K hK=>?_;go_simp
    have hne:=Nat.ne_of_lt h13.lt
    have hGh12:=hx0.size
    have hx1:=(Ext.refl w20).alloc (.cells #[.int .i64 0] 3)
    replace hx0:=hx0.trans hx1
    replace h13:=h13.ext hx1
    clear hx1
    have h12:=Blk.new w20 3 #[.int .i64 0]
    refine hK.out _ _ hx0 ?_
    refine pT ?_
    generalize w20.alloc (.cells #[.int .i64 0] 3)=w21 at *
    generalize w20.heap.size=g12 at *
    exact yC06a8
  case rest =>
   obtain⟨g12,g13,rfl,rfl,hx7,h12,h13⟩:=hcut
   rename World=>w7
   have hw9:=hw6.trans hx7
   have hC:BCaps w7 g8 g10 g11 g12 g13 A M UA RA k c dm uc rc ss a p:=by
    obtain⟨lo3,hi3,htu⟩:=hA.at_
    obtain⟨lo4,hi4,htr⟩:=hP.at_
    exact⟨hB8.out _ (hx6.trans hx7),h10.ext hx7,h11.ext hx7,h12,h13,⟨_,_,_,_,hPT.out _ (hx6.trans hx7)⟩,⟨lo3,hi3,htu.ext hx7⟩,⟨lo4,hi4,htr.ext hx7⟩⟩
   have hGC:GCaps w7 w.heap.size ga (w.heap.size+1) g12 g13 a p:=⟨hB4.out _ (hx6.trans hx7),⟨B,m1,d1,B',m1',d1',lo1,hi1,HGA5.out _ (hx6.trans hx7),HA5.out _ (hx6.trans hx7)⟩,⟨C,m2,d2,C',m2',d2',lo2,hi2,hB5.out _ (hx6.trans hx7),HP.out _ hw9⟩,h12,h13⟩
   obtain⟨N,hN⟩:∃ N:Nat,Hid (zB (zaO ss [a,p])=N):=⟨_,rfl⟩
   obtain⟨⟨_,n12⟩,⟨_,m12⟩⟩:=And.intro (zl Hv.out).2.1 (zl Hp.out).2.1
   obtain⟨⟨n1,_⟩,⟨m1_,_⟩⟩:=And.intro (zl Hv.out).2.1 (zl Hp.out).2.1
   obtain⟨S,hS⟩:∃ S:Nat,Hid (zB (ss.map zdk)=S):=⟨_,rfl⟩
   have hS4:1≤S∧S≤4096:=by
    rw [← hS.out]
    refine⟨zdr hsl.out,Nat.le_trans (zcN hsl.out) ?_⟩
    have:=(HS.out w (Ext.refl _)).1
    calc 16 ^ ss.length≤16 ^ 3:=Nat.pow_le_pow_right (by omega) (by omega)
     _=4096:=by decide
   have hNe:S*a.next.length*p.next.length=N:=by
    rw [← hN.out,← hS.out,show zaO ss [a,p]=ss.map zdk++[zbf a,zbf p] from rfl,zbw]
    simp [zB,zag,zbf,Nat.mul_assoc]
   have hSn:S*a.next.length≤4096*12:=Nat.mul_le_mul hS4.2 n12
   have hNle:N≤4096*12*12:=by rw [← hNe];exact Nat.mul_le_mul hSn m12
   have hN1:1≤N:=by rw [← hNe];exact Nat.mul_pos (Nat.mul_pos hS4.1 n1) m1_
   obtain⟨sn,hsn⟩:∃ z:Nat,Hid (S*a.next.length=z):=⟨_,rfl⟩
   rw [hsn.out] at hNe hSn
   have hsni:(S:Int)*(a.next.length:Int)=(sn:Int):=by rw [← hsn.out];exact (Int.natCast_mul S _).symm
   have hNi:(sn:Int)*(p.next.length:Int)=(N:Int):=by rw [← hNe];exact (Int.natCast_mul sn _).symm
   have Hd:=za (show ∀ x l,x<N→l<6→∀ y∈zbC ss a p x l,y<N from fun x l _ hl y hy=>by
    rw [zcF] at hy
    rw [← hN.out]
    refine zhF (fun mm hmm=>?_) hl y hy
    rcases List.mem_append.1 hmm with h1|h1
    ·obtain⟨s,hs',rfl⟩:=List.mem_map.1 h1
     exact zdJ (hsl.out s hs')
    ·obtain⟨b,hb',rfl⟩:=List.mem_map.1 h1
     simp at hb'
     rcases hb' with rfl|rfl
     ·exact zbg Hv.out
     ·exact zbg Hp.out)
   have Hdl:=za (show ∀ x l,(zbC ss a p x l).length≤4096 from fun x l=>by
    unfold zbC
    rw [List.length_map]
    refine Nat.le_trans (nx_len hsl.out _ l) ?_
    have:=(HS.out w (Ext.refl _)).1
    calc 16 ^ ss.length≤16 ^ 3:=Nat.pow_le_pow_right (by omega) (by omega)
     _=4096:=by decide)
   have hrise:=za (zfG (U|||al))
   have key:=za (fun W (hW:Ext w7 W) A1 c1 AL q' cL (hA1:zad W A1 1 [0]) (hL:zad W AL q' (letters (U|||al) 6))=>zeP (w:=W) (N:=N) (kn:=179) (kg:=181) (m:=1) (c:=c1) (cL:=cL)
    (capn:=#[.pointer (some ⟨g10,0,none⟩),.pointer (some ⟨g13,0,none⟩),.pointer (some ⟨g12,0,none⟩),.pointer (some ⟨g11,0,none⟩),.pointer (some ⟨g8,0,none⟩)])
    (capg:=#[.pointer (some ⟨w.heap.size,0,none⟩),.pointer (some ⟨g13,0,none⟩),.pointer (some ⟨g12,0,none⟩),.pointer (some ⟨w.heap.size+1,0,none⟩)])
    (goal:=zbs a p) (d:=zbC ss a p) (D:=4096) hA1 (fun n hn=>by simp at hn;omega) (by omega) hL hrise.out (by omega) (by omega) (fun args W=>by kernel_rfl) (fun args W=>by kernel_rfl)
    (fun W' hW' n hn=>brk_goal (hGC.ext (hW.trans hW')) Hv.out Hp.out (by omega))
    (fun n l hn hl=>⟨Hdl.out n l,Hd.out n l hn (hrise.out.1 l hl)⟩)
    (fun W' hW' n l hn hl base A m c xs hb0 hb hm ziJ=>brk_next (hC.ext hW) (HT.out _ (hw9.trans hW)) hW' hsl.out hk3 Hv.out Hp.out (by rw [hN.out];exact hn) (hrise.out.1 l hl) hb0 hb hm ziJ))
   have hSZ:=za (show ∀ W,Ext w7 W→Calls Tryz.prog 183 #[.agg #[.slice A k c,.slice M k dm]] W fun e w'=>e=.returned (.int .i64 (S:Nat))∧Ext W w' from fun W hW=>by
    have:=zhE (c:=c) (dm:=dm) (hPT.out W ((hx6.trans hx7).trans hW)) hsl.out hk3
    rw [hS.out] at this
    exact this)
   have hLT:=za (fun W=>zY (U|||al) (by have:=Nat.or_lt_two_pow (n:=6) (x:=U) (y:=al) (by omega) (by omega);unfold Sm;omega) W)
   have hor:bits .or .i64 (U:Int) (al:Int)=((U|||al:Nat):Int):=zbR (by unfold Sm;omega) (by unfold Sm;omega)
   have c8:∀ W,Ext w7 W→∀ j,W.cell? ⟨g8,j,none⟩=#[Value.slice A k c,.slice M k dm][j]?:=fun W hW=>(hC.h8.ext hW).cell
   have c12:∀ W,Ext w7 W→W.cell? ⟨g12,0,none⟩=some (.int .i64 (a.next.length:Nat)):=fun W hW=>by rw [(hC.h12.ext hW).cell];rfl
   have c13:∀ W,Ext w7 W→W.cell? ⟨g13,0,none⟩=some (.int .i64 (p.next.length:Nat)):=fun W hW=>by rw [(hC.h13.ext hW).cell];rfl
   have c4:∀ W,Ext w7 W→W.cell? ⟨w.heap.size,0,none⟩=some (.pointer (some ⟨ga,0,none⟩)):=fun W hW=>by rw [(hGC.h4.ext hW).cell];rfl
   have ca:∀ W,Ext w7 W→∀ j,W.cell? ⟨ga,j,none⟩=#[Value.int .i64 (al:Nat),.slice B m1 d1,.slice B' m1' d1'][j]?:=fun W hW=>by
    have:=(HGA5.out W ((hx6.trans hx7).trans hW)).cell
    rw [hale.out] at this
    exact this
   have hw1:IntKind.i64.wrap (sn:Int)=(sn:Int):=zfV sn (by omega)
   have hw2:IntKind.i64.wrap (N:Int)=(N:Int):=zfV N (by omega)
   have hww:=Ext.refl w7
   clear hC hGC h10 h11 h12 h13 hA hP
   go_upto_region 9 with fail
   refine uR (fun X=>Ext w7 X) [16] (zu.app [0,2,4,7,8,14,15] (zu.three 1 (zu.app [3,5] (zu.two 6 (zu.of [9,10,11,12,13,16,17,18,19,20]) 9 (zu.app [10,11,12] (zu.two 6 (zu.of [13,16,17,18,19,20]) 13 (zu.of [6,16,17,18,19,20]))))) 6 (zu.two 1 (zu.of [3,5,9,10,11,12,13,16,17,18,19,20]) 9 (zu.of [10,11,12,1,3,5,13,16,17,18,19,20])) 9 (zu.app [10,11,12] (zu.two 1 (zu.app [3,5] (zu.two 6 (zu.of [13,16,17,18,19,20]) 13 (zu.of [6,16,17,18,19,20]))) 6 (zu.of [1,3,5,13,16,17,18,19,20]))))) ?_
   refine uQ ?_
   have hx0:Ext w7 w7.drew:=hww.drew
   generalize w7.drew=wd at *
   refine uQ ?_
   refine zay (fun K hK=>?_) (fun K hK=>?_) (fun K hK=>?_)
   ·go_simp
    refine (hSZ.out _ hx0).mono ?_
    rintro e w20 ⟨rfl,hx1⟩
    replace hx0:=hx0.trans hx1
    clear hx1
    refine hK.out _ _ hx0 ?_
    refine pT ?_
    refine uQ ?_
    refine zm (fun K hK=>?_) (fun K hK=>?_)
    ·go_simp
     have hI:=zcL (x:=0) (Blk.new w20 3 #[.int .i64 ((0:Nat):Int)])
     have hx1:=(Ext.refl w20).alloc (.cells #[.int .i64 ((0:Nat):Int)] 3)
     replace hx0:=hx0.trans hx1
     clear hx1
     refine hK.out _ _ hx0 ?_
     refine pT ?_
     generalize w20.alloc (.cells #[.int .i64 ((0:Nat):Int)] 3)=w21 at *
     generalize w20.heap.size=g1 at *
     exact yC06a10
    ·go_simp
     exact yC06a3
   ·go_simp
    have hI:=zcL (x:=0) (Blk.new wd 3 #[.int .i64 ((0:Nat):Int)])
    have hx1:=(Ext.refl wd).alloc (.cells #[.int .i64 ((0:Nat):Int)] 3)
    replace hx0:=hx0.trans hx1
    clear hx1
    refine hK.out _ _ hx0 ?_
    refine pT ?_
    generalize wd.alloc (.cells #[.int .i64 ((0:Nat):Int)] 3)=w20 at *
    generalize wd.heap.size=g1 at *
    refine zm (fun K hK=>?_) (fun K hK=>?_)
    ·go_simp
     refine (hSZ.out _ hx0).mono ?_
     rintro e w21 ⟨rfl,hx1⟩
     replace hx0:=hx0.trans hx1
     replace hI:=hI.ext hx1
     clear hx1
     refine hK.out _ _ hx0 ?_
     refine pT ?_
     refine uQ ?_
     exact yC06a10
    ·go_simp
     refine hK.out _ _ hx0 ?_
     refine pT ?_
     refine uQ ?_
     exact yC06a9
   ·go_simp
    refine hK.out _ _ hx0 ?_
    refine pT ?_
    refine uQ ?_
    refine zm (fun K hK=>?_) (fun K hK=>?_)
    ·go_simp
     refine (hSZ.out _ hx0).mono ?_
     rintro e w20 ⟨rfl,hx1⟩
     replace hx0:=hx0.trans hx1
     clear hx1
     exact yC06a3
    ·go_simp
     have hI:=zcL (x:=0) (Blk.new wd 3 #[.int .i64 ((0:Nat):Int)])
     have hx1:=(Ext.refl wd).alloc (.cells #[.int .i64 ((0:Nat):Int)] 3)
     replace hx0:=hx0.trans hx1
     clear hx1
     refine hK.out _ _ hx0 ?_
     refine pT ?_
     generalize wd.alloc (.cells #[.int .i64 ((0:Nat):Int)] 3)=w20 at *
     generalize wd.heap.size=g1 at *
     exact yC06a9
section
variable {lo hi n c:Nat} {A:Option Addr} {s:Sys} {lo1 hi1 m1 d1 m1' d1':Nat} {B B':Option Addr} {a:Aut} {lo2 hi2 m2 d2 m2' d2':Nat} {C C':Option Addr} {p:Aut} {w:World}
theorem zer (h:zM w lo hi A n s)(ha:zC w lo1 hi1 B m1 B' m1' a)(hp:zC w lo2 hi2 C m2 C' m2' p)(hT:Tab w) :
  Calls Tryz.prog 82 #[.agg #[.int .i64 s.al,.int .i64 s.st,.slice A n c],.agg #[.int .i64 a.al,.slice B m1 d1,.slice B' m1' d1'],.agg #[.int .i64 p.al,.slice C m2 d2,.slice C' m2' d2']] w fun e w'=>e=.returned (.tuple #[.string (zbl s a p),.bool (zci s a p)])∧Ext w w':=by
 have HT:=za (fun W (hW:Ext w W)=>hT.ext hW)
 have HSy:=za (fun W (hW:Ext w W)=>h.ext hW)
 have HAa:=za (fun W (hW:Ext w W)=>ha.ext hW)
 have HPa:=za (fun W (hW:Ext w W)=>hp.ext hW)
 have HS:=za (fun W (hW:Ext w W)=>zaN (c:=c) (h.ext hW))
 have HA:=za (fun W (hW:Ext w W)=>zV _ _ _ _ d1 _ _ d1' _ _ (ha.ext hW))
 have HP:=za (fun W (hW:Ext w W)=>zV _ _ _ _ d2 _ _ d2' _ _ (hp.ext hW))
 clear h ha hp hT
 have hw1:Ext w (((w.alloc (.cells #[.int .i64 s.al,.int .i64 s.st,.slice A n c] 38)).alloc (.cells #[.int .i64 a.al,.slice B m1 d1,.slice B' m1' d1'] 31)).alloc (.cells #[.int .i64 p.al,.slice C m2 d2,.slice C' m2' d2'] 31)):=(((Ext.refl w).alloc _).alloc _).alloc _
 obtain⟨b1,b2,b3⟩:=zK (Ext.refl (((w.alloc (.cells #[.int .i64 s.al,.int .i64 s.st,.slice A n c] 38)).alloc (.cells #[.int .i64 a.al,.slice B m1 d1,.slice B' m1' d1'] 31)).alloc (.cells #[.int .i64 p.al,.slice C m2 d2,.slice C' m2' d2'] 31)))
 by_cases hT:zcC s a p=true
 ·have hr:=za (show zbl s a p=vioW [s] a p∧zci s a p=vioB [s] a p by unfold zbl zci;rw [hT];exact⟨rfl,by simp⟩)
  unfold zcC at hT
  simp only [Bool.and_eq_true] at hT
  obtain⟨v1,v2,v3⟩:=hT
  have hap:=za (show zA [s]=true by simp [zA,v1])
  have V1:=za v1
  have V2:=za v2
  have V3:=za v3
  clear v1 v2 v3
  go_enter Tryz.func82,Tryz.ntmps82
  go_upto_region 1 with fail
  generalize ((w.alloc (.cells #[.int .i64 s.al,.int .i64 s.st,.slice A n c] 38)).alloc (.cells #[.int .i64 a.al,.slice B m1 d1,.slice B' m1' d1'] 31)).alloc (.cells #[.int .i64 p.al,.slice C m2 d2,.slice C' m2' d2'] 31)=w1 at *
  have c1:=b1.cell
  go_upto_region 3 with (first
   |(go_at_call 108;with_reducible refine (HS.out _ hw1).mono ?_;rw [V1.out];rintro e w2 ⟨rfl,hx2⟩;have hw2:=hw1.trans hx2;have c2:=(b2.ext hx2).cell)
   |(go_at_call 95;with_reducible refine (HA.out _ hw2).mono ?_;rw [V2.out];rintro e w3 ⟨rfl,hx3⟩;have hw3:=hw2.trans hx3;have c3:=(b3.ext (hx2.trans hx3)).cell)
   |(go_at_call 95;with_reducible refine (HP.out _ hw3).mono ?_;rw [V3.out];rintro e w4 ⟨rfl,hx4⟩;have hw4:=hw3.trans hx4))
  have hx14:=hx2.trans (hx3.trans hx4)
  have k1:=(b1.ext hx14).cell
  have e5:=Blk.new w4 38 #[.int .i64 s.al,.int .i64 s.st,.slice A n c]
  have f5:=(Ext.refl w4).alloc (.cells #[.int .i64 s.al,.int .i64 s.st,.slice A n c] 38)
  have k3:=(b3.ext (hx14.trans f5)).cell
  have b25:=b2.ext (hx14.trans f5)
  have hw5:=hw4.trans f5
  obtain⟨l1,h1,hsl⟩:=sl_one e5 (HSy.out _ hw5)
  have HF:=za (zfO (c:=1) (d2:=d2) (d2':=d2') hsl hap.out (HT.out _ hw5) b25 (HAa.out _ hw5) V2.out (HPa.out _ hw5) V3.out)
  clear c1 c2 c3 b1 b2 b3 hsl e5 b25
  go_wp2_with (go_at_call 102;refine HF.out.mono ?_;rintro e w6 hF;obtain⟨rfl,hx6⟩:=hF.first (zbV _))
  go_ret2
  exact⟨by rw [hr.out.1,hr.out.2];rfl,hw5.trans hx6⟩
 ·have hT':zcC s a p=false:=by simpa using hT
  have hr:=za (show zbl s a p=ByteArray.empty∧zci s a p=false by unfold zbl zci;rw [hT'];exact⟨rfl,rfl⟩)
  have hT2:=za (show (zn s&&(zk a&&zk p))=false from hT')
  clear hT hT'
  cases h1:zn s<;>cases h2:zk a<;>cases h3:zk p
  all_goals first
   |(exfalso;have:=hT2.out;rw [h1,h2,h3] at this;cases this;done)
   |(have H1:=za h1
     have H2:=za h2
     have H3:=za h3
     clear h1 h2 h3
     go_enter Tryz.func82,Tryz.ntmps82
     go_upto_region 1 with fail
     generalize ((w.alloc (.cells #[.int .i64 s.al,.int .i64 s.st,.slice A n c] 38)).alloc (.cells #[.int .i64 a.al,.slice B m1 d1,.slice B' m1' d1'] 31)).alloc (.cells #[.int .i64 p.al,.slice C m2 d2,.slice C' m2' d2'] 31)=w1 at *
     have c1:=b1.cell
     go_wp2_with (first
      |(go_at_call 108;with_reducible refine (HS.out _ hw1).mono ?_;rw [H1.out];rintro e w2 ⟨rfl,hx2⟩;have hw2:=hw1.trans hx2;have c2:=(b2.ext hx2).cell)
      |(go_at_call 95;with_reducible refine (HA.out _ hw2).mono ?_;rw [H2.out];rintro e w3 ⟨rfl,hx3⟩;have hw3:=hw2.trans hx3;have c3:=(b3.ext (hx2.trans hx3)).cell)
      |(go_at_call 95;with_reducible refine (HP.out _ hw3).mono ?_;rw [H3.out];rintro e w4 ⟨rfl,hx4⟩;have hw4:=hw3.trans hx4))
     go_ret2
     exact⟨by rw [hr.out.1,hr.out.2];rfl,by first|exact hw4|exact hw3|exact hw2⟩)
variable {k:Nat} {ss:List Sys}
theorem zcv (h:zha w lo hi A k ss)(hp:zC w lo2 hi2 C m2 C' m2' p)(hT:Tab w) :
  Calls Tryz.prog 49 #[.slice A k c,.agg #[.int .i64 p.al,.slice C m2 d2,.slice C' m2' d2']] w fun e w'=>e=.returned (.tuple #[.string (zaf ss p),.bool (zbD ss p)])∧Ext w w':=by
 have HS:=za (fun W (hW:Ext w W)=>h.ext hW)
 have HP:=za (fun W (hW:Ext w W)=>hp.ext hW)
 have HT:=za (fun W (hW:Ext w W)=>hT.ext hW)
 clear h hp hT
 have hw1:Ext w (w.alloc (.cells #[.int .i64 p.al,.slice C m2 d2,.slice C' m2' d2'] 31)):=(Ext.refl w).alloc _
 have b1:=Blk.new w 31 #[.int .i64 p.al,.slice C m2 d2,.slice C' m2' d2']
 cases hA:zA ss
 ·have hr:=za (show zaf ss p=ByteArray.empty∧zbD ss p=false by unfold zaf zbD zcd;rw [hA];exact⟨rfl,rfl⟩)
  have HA:=za hA
  clear hA
  go_enter Tryz.func49,Tryz.ntmps49
  go_upto_region 1 with fail
  generalize w.alloc (.cells #[.int .i64 p.al,.slice C m2 d2,.slice C' m2' d2'] 31)=w1 at *
  go_wp2_with (go_at_call 94;refine (zbF (HS.out _ hw1)).mono ?_;rw [HA.out];rintro e w2 ⟨rfl,hx2⟩)
  go_ret2
  exact⟨by rw [hr.out.1,hr.out.2];rfl,hw1.trans hx2⟩
 ·cases hV:zk p
  ·have hr:=za (show zaf ss p=ByteArray.empty∧zbD ss p=false by unfold zaf zbD zcd;rw [hA,hV];exact⟨rfl,rfl⟩)
   have HV:=za hV
   have HA:=za hA
   clear hA hV
   go_enter Tryz.func49,Tryz.ntmps49
   go_upto_region 1 with fail
   generalize w.alloc (.cells #[.int .i64 p.al,.slice C m2 d2,.slice C' m2' d2'] 31)=w1 at *
   go_wp2_with (first
    |(go_at_call 94;refine (zbF (HS.out _ hw1)).mono ?_;rw [HA.out];rintro e w2 ⟨rfl,hx2⟩;have hw2:=hw1.trans hx2;have c2:=(b1.ext hx2).cell)
    |(go_at_call 95;refine (zV _ _ _ _ _ _ _ _ _ _ (HP.out _ hw2)).mono ?_;rw [HV.out];rintro e w3 ⟨rfl,hx3⟩;have hw3:=hw2.trans hx3))
   go_ret2
   exact⟨by rw [hr.out.1,hr.out.2];rfl,hw3⟩
  ·have hr:=za (show zaf ss p=vioW ss free p∧zbD ss p=vioB ss free p by unfold zaf zbD zcd;rw [hA,hV];exact⟨rfl,by simp⟩)
   have HV:=za hV
   have HA:=za hA
   clear hA hV
   go_enter Tryz.func49,Tryz.ntmps49
   go_upto_region 1 with fail
   generalize w.alloc (.cells #[.int .i64 p.al,.slice C m2 d2,.slice C' m2' d2'] 31)=w1 at *
   go_wp2_with (first
    |(go_at_call 94;refine (zbF (HS.out _ hw1)).mono ?_;rw [HA.out];rintro e w2 ⟨rfl,hx2⟩;have hw2:=hw1.trans hx2;have c2:=(b1.ext hx2).cell)
    |(go_at_call 95;refine (zV _ _ _ _ _ _ _ _ _ _ (HP.out _ hw2)).mono ?_;rw [HV.out];rintro e w3 ⟨rfl,hx3⟩;have hw3:=hw2.trans hx3;have c3:=(b1.ext (hx2.trans hx3)).cell)
    |(go_at_call 102;refine (zec (c:=c) (d2:=d2) (d2':=d2') (HS.out _ hw3) HA.out (HT.out _ hw3) (HP.out _ hw3) HV.out).mono ?_;rintro e w4 hF;obtain⟨rfl,hx4⟩:=hF.first (zbV _)))
   go_ret2
   exact⟨by rw [hr.out.1,hr.out.2];rfl,hw3.trans hx4⟩
end
def three (ss:List Sys) (p:Aut):Bool:=decide (ss.length=3)&&(zA ss&&zk p)
def iface (s:Sys) (p:Aut) (t:Sys):Int:=if (zn s&&(zk p&&zn t))=true then (((s.al.toNat|||p.al.toNat)&&&t.al.toNat:Nat):Int) else -1
section
variable {lo hi n c:Nat} {A:Option Addr} {s:Sys} {lo1 hi1 m1 d1 m1' d1':Nat} {B B':Option Addr} {p:Aut} {lo2 hi2 k c2:Nat} {C:Option Addr} {t:Sys} {w:World}
theorem zdy (h:zM w lo hi A n s)(hp:zC w lo1 hi1 B m1 B' m1' p)(ht:zM w lo2 hi2 C k t) :
  Calls Tryz.prog 114 #[.agg #[.int .i64 s.al,.int .i64 s.st,.slice A n c],.agg #[.int .i64 p.al,.slice B m1 d1,.slice B' m1' d1'],.agg #[.int .i64 t.al,.int .i64 t.st,.slice C k c2]] w fun e w'=>e=.returned (.int .i64 (iface s p t))∧Ext w w':=by
 have HS:=za (fun W (hW:Ext w W)=>zax (c:=c) (h.ext hW))
 have HP:=za (fun W (hW:Ext w W)=>zO _ _ _ _ d1 _ _ d1' _ _ (hp.ext hW))
 have HT:=za (fun W (hW:Ext w W)=>zax (c:=c2) (ht.ext hW))
 clear h hp ht
 cases h1:zn s<;>cases h2:zk p<;>cases h3:zn t
 case true.true.true =>
  have H1:=za h1
  have H2:=za h2
  have H3:=za h3
  have v1:=zN h1
  have v2:=(zl h2).1
  have v3:=zN h3
  obtain⟨a,ha⟩:∃ a:Nat,Hid (s.al=a):=⟨s.al.toNat,by unfold Hid;omega⟩
  obtain⟨b,hb⟩:∃ a:Nat,Hid (p.al=a):=⟨p.al.toNat,by unfold Hid;omega⟩
  obtain⟨d,hd⟩:∃ a:Nat,Hid (t.al=a):=⟨t.al.toNat,by unfold Hid;omega⟩
  have hr:=za (show iface s p t=((((a|||b)&&&d:Nat)):Int) by unfold iface;rw [h1,h2,h3,ha.out,hb.out,hd.out];rfl)
  rw [ha.out] at v1
  rw [hb.out] at v2
  rw [hd.out] at v3
  have a6:a≤63:=by omega
  have b6:b≤63:=by omega
  have d6:d≤63:=by omega
  have o6:=Nat.or_lt_two_pow (n:=6) (x:=a) (y:=b) (by omega) (by omega)
  have ho:=zbR (a:=a) (b:=b) (by unfold Sm;omega) (by unfold Sm;omega)
  have hn:=zdo (a:=a|||b) (b:=d) (by unfold Sm;omega) (by unfold Sm;omega)
  clear h1 h2 h3 v1 v2 v3 o6
  rw [ha.out] at HS ⊢
  rw [hb.out] at HP ⊢
  rw [hd.out] at HT ⊢
  have hw1:Ext w (((w.alloc (.cells #[.int .i64 a,.int .i64 s.st,.slice A n c] 38)).alloc (.cells #[.int .i64 b,.slice B m1 d1,.slice B' m1' d1'] 31)).alloc (.cells #[.int .i64 d,.int .i64 t.st,.slice C k c2] 38)):=(((Ext.refl w).alloc _).alloc _).alloc _
  obtain⟨b1,b2,b3⟩:=zK (Ext.refl (((w.alloc (.cells #[.int .i64 a,.int .i64 s.st,.slice A n c] 38)).alloc (.cells #[.int .i64 b,.slice B m1 d1,.slice B' m1' d1'] 31)).alloc (.cells #[.int .i64 d,.int .i64 t.st,.slice C k c2] 38)))
  go_enter Tryz.func114,Tryz.ntmps114
  go_upto_region 1 with fail
  generalize ((w.alloc (.cells #[.int .i64 a,.int .i64 s.st,.slice A n c] 38)).alloc (.cells #[.int .i64 b,.slice B m1 d1,.slice B' m1' d1'] 31)).alloc (.cells #[.int .i64 d,.int .i64 t.st,.slice C k c2] 38)=w1 at *
  have c1:=b1.cell
  go_wp2_with (first
   |(go_at_call 199;with_reducible refine (HS.out _ hw1).mono ?_;rw [H1.out];rintro e w2 ⟨rfl,hx2⟩;have hw2:=hw1.trans hx2;have c2:=(b2.ext hx2).cell)
   |(go_at_call 200;with_reducible refine (HP.out _ hw2).mono ?_;rw [H2.out];rintro e w3 ⟨rfl,hx3⟩;have hw3:=hw2.trans hx3;have c3:=(b3.ext (hx2.trans hx3)).cell)
   |(go_at_call 199;with_reducible refine (HT.out _ hw3).mono ?_;rw [H3.out];rintro e w4 ⟨rfl,hx4⟩;have hw4:=hw3.trans hx4;have k1:=(b1.ext (hx2.trans (hx3.trans hx4))).cell;have k2:=(b2.ext (hx2.trans (hx3.trans hx4))).cell;have k3:=(b3.ext (hx2.trans (hx3.trans hx4))).cell))
  go_ret
  exact⟨zG (by rw [hr.out]),hw4⟩
 all_goals
  have hr:=za (show iface s p t = -1 by unfold iface;rw [h1,h2,h3];rfl)
  have H1:=za h1
  have H2:=za h2
  have H3:=za h3
  clear h1 h2 h3
  have hw1:Ext w (((w.alloc (.cells #[.int .i64 s.al,.int .i64 s.st,.slice A n c] 38)).alloc (.cells #[.int .i64 p.al,.slice B m1 d1,.slice B' m1' d1'] 31)).alloc (.cells #[.int .i64 t.al,.int .i64 t.st,.slice C k c2] 38)):=(((Ext.refl w).alloc _).alloc _).alloc _
  obtain⟨b1,b2,b3⟩:=zK (Ext.refl (((w.alloc (.cells #[.int .i64 s.al,.int .i64 s.st,.slice A n c] 38)).alloc (.cells #[.int .i64 p.al,.slice B m1 d1,.slice B' m1' d1'] 31)).alloc (.cells #[.int .i64 t.al,.int .i64 t.st,.slice C k c2] 38)))
  go_enter Tryz.func114,Tryz.ntmps114
  go_upto_region 1 with fail
  generalize ((w.alloc (.cells #[.int .i64 s.al,.int .i64 s.st,.slice A n c] 38)).alloc (.cells #[.int .i64 p.al,.slice B m1 d1,.slice B' m1' d1'] 31)).alloc (.cells #[.int .i64 t.al,.int .i64 t.st,.slice C k c2] 38)=w1 at *
  have c1:=b1.cell
  go_wp2_with (first
   |(go_at_call 199;with_reducible refine (HS.out _ hw1).mono ?_;rw [H1.out];rintro e w2 ⟨rfl,hx2⟩;have hw2:=hw1.trans hx2;have c2:=(b2.ext hx2).cell)
   |(go_at_call 200;with_reducible refine (HP.out _ hw2).mono ?_;rw [H2.out];rintro e w3 ⟨rfl,hx3⟩;have hw3:=hw2.trans hx3;have c3:=(b3.ext (hx2.trans hx3)).cell)
   |(go_at_call 199;with_reducible refine (HT.out _ hw3).mono ?_;rw [H3.out];rintro e w4 ⟨rfl,hx4⟩;have hw4:=hw3.trans hx4))
  go_ret
  exact⟨zG (by rw [hr.out]),by first|exact hw4|exact hw3|exact hw2⟩
theorem zdx (h:zM w lo hi A n s)(hp:zC w lo1 hi1 B m1 B' m1' p)(ht:zM w lo2 hi2 C k t) :
  Calls Tryz.prog 188 #[.agg #[.int .i64 s.al,.int .i64 s.st,.slice A n c],.agg #[.int .i64 p.al,.slice B m1 d1,.slice B' m1' d1'],.agg #[.int .i64 t.al,.int .i64 t.st,.slice C k c2]] w fun e w'=>e=.returned (.int .i64 (iface s p t))∧Ext w w':=by
 have HS:=za (fun W (hW:Ext w W)=>zaN (c:=c) (h.ext hW))
 have HP:=za (fun W (hW:Ext w W)=>zV _ _ _ _ d1 _ _ d1' _ _ (hp.ext hW))
 have HT:=za (fun W (hW:Ext w W)=>zaN (c:=c2) (ht.ext hW))
 clear h hp ht
 cases h1:zn s<;>cases h2:zk p<;>cases h3:zn t
 case true.true.true =>
  have H1:=za h1
  have H2:=za h2
  have H3:=za h3
  have v1:=zN h1
  have v2:=(zl h2).1
  have v3:=zN h3
  obtain⟨a,ha⟩:∃ a:Nat,Hid (s.al=a):=⟨s.al.toNat,by unfold Hid;omega⟩
  obtain⟨b,hb⟩:∃ a:Nat,Hid (p.al=a):=⟨p.al.toNat,by unfold Hid;omega⟩
  obtain⟨d,hd⟩:∃ a:Nat,Hid (t.al=a):=⟨t.al.toNat,by unfold Hid;omega⟩
  have hr:=za (show iface s p t=((((a|||b)&&&d:Nat)):Int) by unfold iface;rw [h1,h2,h3,ha.out,hb.out,hd.out];rfl)
  rw [ha.out] at v1
  rw [hb.out] at v2
  rw [hd.out] at v3
  have a6:a≤63:=by omega
  have b6:b≤63:=by omega
  have d6:d≤63:=by omega
  have o6:=Nat.or_lt_two_pow (n:=6) (x:=a) (y:=b) (by omega) (by omega)
  have ho:=zbR (a:=a) (b:=b) (by unfold Sm;omega) (by unfold Sm;omega)
  have hn:=zdo (a:=a|||b) (b:=d) (by unfold Sm;omega) (by unfold Sm;omega)
  clear h1 h2 h3 v1 v2 v3 o6
  rw [ha.out] at HS ⊢
  rw [hb.out] at HP ⊢
  rw [hd.out] at HT ⊢
  have hw1:Ext w (((w.alloc (.cells #[.int .i64 a,.int .i64 s.st,.slice A n c] 38)).alloc (.cells #[.int .i64 b,.slice B m1 d1,.slice B' m1' d1'] 31)).alloc (.cells #[.int .i64 d,.int .i64 t.st,.slice C k c2] 38)):=(((Ext.refl w).alloc _).alloc _).alloc _
  obtain⟨b1,b2,b3⟩:=zK (Ext.refl (((w.alloc (.cells #[.int .i64 a,.int .i64 s.st,.slice A n c] 38)).alloc (.cells #[.int .i64 b,.slice B m1 d1,.slice B' m1' d1'] 31)).alloc (.cells #[.int .i64 d,.int .i64 t.st,.slice C k c2] 38)))
  go_enter Tryz.func188,Tryz.ntmps188
  go_upto_region 1 with fail
  generalize ((w.alloc (.cells #[.int .i64 a,.int .i64 s.st,.slice A n c] 38)).alloc (.cells #[.int .i64 b,.slice B m1 d1,.slice B' m1' d1'] 31)).alloc (.cells #[.int .i64 d,.int .i64 t.st,.slice C k c2] 38)=w1 at *
  have c1:=b1.cell
  go_wp2_with (first
   |(go_at_call 108;with_reducible refine (HS.out _ hw1).mono ?_;rw [H1.out];rintro e w2 ⟨rfl,hx2⟩;have hw2:=hw1.trans hx2;have c2:=(b2.ext hx2).cell)
   |(go_at_call 95;with_reducible refine (HP.out _ hw2).mono ?_;rw [H2.out];rintro e w3 ⟨rfl,hx3⟩;have hw3:=hw2.trans hx3;have c3:=(b3.ext (hx2.trans hx3)).cell)
   |(go_at_call 108;with_reducible refine (HT.out _ hw3).mono ?_;rw [H3.out];rintro e w4 ⟨rfl,hx4⟩;have hw4:=hw3.trans hx4;have k1:=(b1.ext (hx2.trans (hx3.trans hx4))).cell;have k2:=(b2.ext (hx2.trans (hx3.trans hx4))).cell;have k3:=(b3.ext (hx2.trans (hx3.trans hx4))).cell))
  go_ret
  exact⟨zG (by rw [hr.out]),hw4⟩
 all_goals
  have hr:=za (show iface s p t = -1 by unfold iface;rw [h1,h2,h3];rfl)
  have H1:=za h1
  have H2:=za h2
  have H3:=za h3
  clear h1 h2 h3
  have hw1:Ext w (((w.alloc (.cells #[.int .i64 s.al,.int .i64 s.st,.slice A n c] 38)).alloc (.cells #[.int .i64 p.al,.slice B m1 d1,.slice B' m1' d1'] 31)).alloc (.cells #[.int .i64 t.al,.int .i64 t.st,.slice C k c2] 38)):=(((Ext.refl w).alloc _).alloc _).alloc _
  obtain⟨b1,b2,b3⟩:=zK (Ext.refl (((w.alloc (.cells #[.int .i64 s.al,.int .i64 s.st,.slice A n c] 38)).alloc (.cells #[.int .i64 p.al,.slice B m1 d1,.slice B' m1' d1'] 31)).alloc (.cells #[.int .i64 t.al,.int .i64 t.st,.slice C k c2] 38)))
  go_enter Tryz.func188,Tryz.ntmps188
  go_upto_region 1 with fail
  generalize ((w.alloc (.cells #[.int .i64 s.al,.int .i64 s.st,.slice A n c] 38)).alloc (.cells #[.int .i64 p.al,.slice B m1 d1,.slice B' m1' d1'] 31)).alloc (.cells #[.int .i64 t.al,.int .i64 t.st,.slice C k c2] 38)=w1 at *
  have c1:=b1.cell
  go_wp2_with (first
   |(go_at_call 108;with_reducible refine (HS.out _ hw1).mono ?_;rw [H1.out];rintro e w2 ⟨rfl,hx2⟩;have hw2:=hw1.trans hx2;have c2:=(b2.ext hx2).cell)
   |(go_at_call 95;with_reducible refine (HP.out _ hw2).mono ?_;rw [H2.out];rintro e w3 ⟨rfl,hx3⟩;have hw3:=hw2.trans hx3;have c3:=(b3.ext (hx2.trans hx3)).cell)
   |(go_at_call 108;with_reducible refine (HT.out _ hw3).mono ?_;rw [H3.out];rintro e w4 ⟨rfl,hx4⟩;have hw4:=hw3.trans hx4))
  go_ret
  exact⟨zG (by rw [hr.out]),by first|exact hw4|exact hw3|exact hw2⟩
end
def wl (s:ByteArray):List Nat:=s.data.toList.map fun b=>b.toNat - 97
theorem zfk (s:ByteArray):(wl s).length=s.size:=by simp [wl]
theorem zdA {s:ByteArray} {k:Nat}(hk:k<s.size):(wl s)[k]?=some (s[k].toNat - 97):=by
 unfold wl
 rw [List.getElem?_map,zbE s k hk];rfl
theorem zaB {s:ByteArray}(h:zaM s=true) {k:Nat}(hk:k<s.size):97≤s[k].toNat∧s[k].toNat≤102:=by
 unfold zaM at h
 simp only [Bool.and_eq_true,List.all_eq_true] at h
 have:=h.2 s[k] (List.mem_of_getElem? (zbE s k hk))
 simp only [zcw,decide_eq_true_eq] at this
 omega
theorem zbn {s:ByteArray}(h:zaM s=true):s.size≤50000:=by
 unfold zaM at h
 simp only [Bool.and_eq_true,decide_eq_true_eq] at h
 exact h.1
theorem wl_lt {s:ByteArray}(h:zaM s=true):∀ l∈wl s,l<6:=by
 intro l hl
 obtain⟨k,hk⟩:=List.getElem?_of_mem hl
 have hkl:=(List.getElem?_eq_some_iff.1 hk).1
 rw [zfk] at hkl
 rw [zdA hkl] at hk
 have:=zaB h hkl
 have:=Option.some.inj hk
 omega
def alB (ls:List Nat):Nat:=ls.foldl (fun u l=>u|||2 ^ l) 0
theorem alB_snoc (ls:List Nat) (l:Nat):alB (ls++[l])=alB ls|||2 ^ l:=by simp [alB]
theorem zdm (ls:List Nat) (k:Nat):(alB ls).testBit k=true↔k∈ls:=by
 have key:∀ (ls:List Nat) (u:Nat),(ls.foldl (fun u l=>u|||2 ^ l) u).testBit k=true↔u.testBit k=true∨k∈ls:=by
  intro ls
  induction ls with
  |nil=>intro u;simp
  |cons l r ih =>
   intro u
   rw [List.foldl_cons,ih,Nat.testBit_or,Nat.testBit_two_pow,Bool.or_eq_true,decide_eq_true_eq,List.mem_cons]
   constructor
   ·rintro ((h|h)|h)
    ·exact Or.inl h
    ·exact Or.inr (Or.inl h.symm)
    ·exact Or.inr (Or.inr h)
   ·rintro (h|h|h)
    ·exact Or.inl (Or.inl h)
    ·exact Or.inl (Or.inr h.symm)
    ·exact Or.inr h
 have:=key ls 0
 simpa [alB] using this
theorem alB_lt {ls:List Nat}(h:∀ l∈ls,l<6):alB ls<64:=Nat.lt_pow_two_of_testBit (n:=6) _ fun k hk=>by
 rw [Bool.eq_false_iff]
 intro hb
 have:=h k ((zdm ls k).1 hb)
 omega
def inB (s:ByteArray) (a:Nat):Bool:=decide (s.size≤50000)&&zfw s a
theorem zaP {s:ByteArray} {a:Nat}(h:inB s a=true):zaM s=true:=by
 unfold inB at h
 simp only [Bool.and_eq_true,decide_eq_true_eq] at h
 unfold zaM
 simp only [Bool.and_eq_true,decide_eq_true_eq]
 refine⟨h.1,?_⟩
 rw [List.all_eq_true]
 intro b hb
 have h2:=h.2
 unfold zfw at h2
 rw [List.all_eq_true] at h2
 have h3:=h2 b hb
 unfold hasB ltr at h3
 simp only [Bool.and_eq_true,decide_eq_true_eq] at h3
 unfold zcw
 rw [decide_eq_true_eq]
 have h4:=h3.1
 split at h4<;>omega
theorem zes {s:ByteArray} {a:Nat}:inB s a=true↔zaM s=true∧alB (wl s)&&&a=alB (wl s):=by
 constructor
 ·intro h
  have hw:=zaP h
  refine⟨hw,Nat.eq_of_testBit_eq fun k=>?_⟩
  rw [Nat.testBit_and]
  cases hk:(alB (wl s)).testBit k
  ·rfl
  ·rw [Bool.true_and]
   have hm:=(zdm _ k).1 hk
   obtain⟨i,hi⟩:=List.getElem?_of_mem hm
   have hil:=(List.getElem?_eq_some_iff.1 hi).1
   rw [zfk] at hil
   rw [zdA hil] at hi
   have hb:=zaB hw hil
   have e:=Option.some.inj hi
   unfold inB zfw at h
   simp only [Bool.and_eq_true,List.all_eq_true] at h
   have:=h.2 s[i] (List.mem_of_getElem? (zbE s i hil))
   unfold hasB ltr at this
   rw [if_neg (by omega)] at this
   simp only [Bool.and_eq_true] at this
   rw [← e,← this.2]
   congr 1
   omega
 ·rintro ⟨hw,h⟩
  unfold inB
  simp only [Bool.and_eq_true,decide_eq_true_eq]
  refine⟨zbn hw,?_⟩
  unfold zfw
  rw [List.all_eq_true]
  intro b hb
  obtain⟨i,hi⟩:=List.getElem?_of_mem hb
  have hil:i<s.size:=by have:=(List.getElem?_eq_some_iff.1 hi).1;simpa using this
  rw [zbE s i hil] at hi
  obtain rfl:=Option.some.inj hi
  have hb2:=zaB hw hil
  unfold hasB ltr
  rw [if_neg (by omega)]
  have hm:(alB (wl s)).testBit (s[i].toNat - 97)=true:=(zdm _ _).2 (List.mem_of_getElem? (zdA hil))
  rw [← h,Nat.testBit_and,Bool.and_eq_true] at hm
  simp only [Bool.and_eq_true,decide_eq_true_eq]
  refine⟨by omega,?_⟩
  rw [show ((s[i].toNat:Int) - 97).toNat=s[i].toNat - 97 by omega]
  exact hm.2
theorem zdL {s:ByteArray} {w:World}(hs:s.size≤9223372036854775807) :
  Calls Tryz.prog 219 #[.string s] w fun e w'=>e=.returned (.tuple #[.int .i64 (if zaM s=true then alB (wl s) else 0:Nat),.bool (zaM s)])∧w=w':=by
 cases hw:zaM s
 ·have Hw:=za hw
  clear hw
  go_enter Tryz.func219,Tryz.ntmps219
  go_wp2_with (go_at_call 138;refine (zca s _ hs).mono ?_;rw [Hw.out];rintro e w' ⟨rfl,rfl⟩)
  go_ret2
  exact⟨rfl,rfl⟩
 ·have hsz:=zbn hw
  have Hb:=za (fun k hk=>zaB hw (k:=k) hk)
  have Hl:=za (wl_lt hw)
  have Hw:=za hw
  clear hw
  go_enter Tryz.func219,Tryz.ntmps219
  go_wp2_with (go_at_call 138;refine (zca s _ hs).mono ?_;rw [Hw.out];rintro e w' ⟨rfl,rfl⟩)
  go_loop [4,5] (fun v i=>∃ k u:Nat,k≤s.size∧i=.int .i64 k∧v=.int .i64 u∧u<64∧Hid (u=alB ((wl s).take k))) (fun _ i=>s.size - (intOf i).toNat)
  case atStart=>exact⟨0,0,Nat.zero_le _,rfl,rfl,by omega,rfl⟩
  case round =>
   obtain⟨k,u,hk,rfl,rfl,hu,hua⟩:=hrel
   by_cases hlt:k<s.size
   ·have hbb:=Hb.out k hlt
    obtain⟨l,hl⟩:∃ l:Nat,Hid ((s[k].toNat:Int) - 97=l):=⟨s[k].toNat - 97,by unfold Hid;omega⟩
    have hl6:l<6:=by have:=hl.out;omega
    have hst:=za (show alB ((wl s).take (k+1))=u|||2 ^ l by
     rw [List.take_add_one,zdA hlt,Option.toList_some,alB_snoc,← hua.out]
     congr 2
     have:=hl.out;omega)
    have hor:=za (show bits .or .i64 (u:Nat) ((2:Int) ^ l)=((u|||2 ^ l:Nat):Int) by
     have:=zbR (a:=u) (by unfold Sm;omega) (Sm.bit (n:=l) (by omega))
     rw [show (((2:Nat) ^ l:Nat):Int)=(2:Int) ^ l by simp] at this
     exact this)
    have hlt2:u|||2 ^ l<64:=Nat.or_lt_two_pow (n:=6) hu (Nat.pow_lt_pow_right (by omega) hl6)
    have ho:=hor.out
    clear hbb
    go_wp2_with (first
     |(go_at_call 141;refine (zbL s k hlt _).mono ?_;rw [hl.out];rintro e w' ⟨rfl,rfl⟩)
     |(go_at_call 241;refine (zfB l (by omega) _).mono ?_;rintro e w' ⟨rfl,rfl⟩))
    go_round
    case rel=>exact⟨k+1,u|||2 ^ l,by omega,by go_num,by first|rfl|rw [hor.out],hlt2,hst.symm⟩
    case measure=>simp [intOf];omega
   ·obtain rfl:k=s.size:=by omega
    have ziM:=za (show u=alB (wl s) by rw [hua.out,List.take_of_length_le (by rw [zfk];exact Nat.le_refl _)])
    go_wp2
    go_ret2
    exact⟨by rw [ziM.out];rfl,rfl⟩
theorem zaG {s:ByteArray} {a:Nat} {w:World}(hs:s.size≤9223372036854775807)(ha:a≤63) :
  Calls Tryz.prog 143 #[.string s,.int .i64 a] w fun e w'=>e=.returned (.bool (inB s a))∧w=w':=by
 have hal:=za (show (decide ((0:Int)≤a∧(a:Int)≤63))=true by simp;omega)
 cases hw:zaM s
 ·have hr:=za (show inB s a=false by
   rw [Bool.eq_false_iff]
   intro h
   rw [zaP h] at hw;cases hw)
  have Hw:=za hw
  clear hw
  go_enter Tryz.func143,Tryz.ntmps143
  go_wp2_with (go_at_call 219;refine (zdL hs).mono ?_;rw [Hw.out];rintro e w' ⟨rfl,rfl⟩)
  go_ret
  exact⟨zj (by rw [hr.out]),rfl⟩
 ·obtain⟨u,hu⟩:∃ u,Hid (alB (wl s)=u):=⟨_,rfl⟩
  have hu64:u<64:=by rw [← hu.out];exact alB_lt (wl_lt hw)
  have hbi:=za (zdo (a:=u) (b:=a) (by unfold Sm;omega) (by unfold Sm;omega))
  have hb:=hbi.out
  have hr:=za (show inB s a=(((u&&&a:Nat):Int)==(u:Int)) by
   rw [Bool.eq_iff_iff,zes,hu.out,beq_iff_eq]
   constructor
   ·rintro ⟨_,h⟩;rw [h]
   ·intro h;exact⟨hw,by omega⟩)
  have Hw:=za hw
  clear hw
  go_enter Tryz.func143,Tryz.ntmps143
  go_wp2_with (first
   |(go_at_call 219;refine (zdL hs).mono ?_;rw [Hw.out,if_pos rfl,hu.out];rintro e w' ⟨rfl,rfl⟩)
   |(go_at_call 139;refine (zT _ _).mono ?_;rw [hal.out];rintro e w' ⟨rfl,rfl⟩))
  go_ret
  exact⟨zj (by rw [hr.out]),rfl⟩
end Go.Proofs.YtcfchopfijalpaaGreatDoor
