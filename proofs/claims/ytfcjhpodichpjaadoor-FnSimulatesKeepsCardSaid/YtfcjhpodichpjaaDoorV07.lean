/- Cut out of X -/
import Derived.Test.YtfcjhpodichpjaaDoorV06
import Derived.Test.YtfcjhpodichpjaaDoorV03
import Derived.Test.YtfcjhpodichpjaaDoorV01
import Derived.Test.YtfcjhpodichpjaaDoorV02
set_option maxHeartbeats 8000000
set_option maxRecDepth 100000
namespace Go.Proofs.YtfcjhpodichpjaaDoor
open Go Go.RowKit
theorem yV07d1 {P:Prop}(h:P:=by
 have Kh10:=h10.cell 0
 have Zh10:=h10.frozen 0
 refine zb fun K hK=>?_
 go_simp
 have hx2:=hx0.frm (Frm.setCell w23 g10 0 (.slice UA a.next.length uc)) (fun k hk e=>by have:=hGh10;omega)
 have hA2:=hA.set h10 (by decide) (.slice UA a.next.length uc)
 have hP2:=hP.set h10 (by decide) (.slice UA a.next.length uc)
 have h102:Blk (w23.setCell ⟨g10,0,none⟩ (.slice UA a.next.length uc)) g10 154 #[.slice UA a.next.length uc]:=by simpa using h10.set_ 0 (.slice UA a.next.length uc)
 have h112:=h11.far (p:=⟨g10,0,none⟩) (by first|exact hne|exact hne.symm) (.slice UA a.next.length uc)
 refine hK.out _ _ ?_
 refine pT ?_
 clear hA hP h10 h11 Kh10 Zh10 hx0
 generalize w23.setCell ⟨g10,0,none⟩ (.slice UA a.next.length uc)=w24 at *
 have hA:=hA2;have hP:=hP2;have h10:=h102;have h11:=h112;have hx0:=hx2
 clear hA2 hP2 h102 h112 hx2
 have Kh11:=h11.cell 0
 have Zh11:=h11.frozen 0
 refine zb fun K hK=>?_
 go_simp
 have hx2:=hx0.frm (Frm.setCell w24 g11 0 (.slice RA p.next.length rc)) (fun k hk e=>by have:=hGh11;omega)
 have hA2:=hA.set h11 (by decide) (.slice RA p.next.length rc)
 have hP2:=hP.set h11 (by decide) (.slice RA p.next.length rc)
 have h112:Blk (w24.setCell ⟨g11,0,none⟩ (.slice RA p.next.length rc)) g11 154 #[.slice RA p.next.length rc]:=by simpa using h11.set_ 0 (.slice RA p.next.length rc)
 have h102:=h10.far (p:=⟨g11,0,none⟩) (by first|exact hne|exact hne.symm) (.slice RA p.next.length rc)
 refine hK.out _ _ ?_
 refine pT ?_
 clear hA hP h10 h11 Kh11 Zh11 hx0
 generalize w24.setCell ⟨g11,0,none⟩ (.slice RA p.next.length rc)=w25 at *
 have hA:=hA2;have hP:=hP2;have h10:=h102;have h11:=h112;have hx0:=hx2
 clear hA2 hP2 h102 h112 hx2
 refine zh ?_
 go_wp2_with fail
 go_meet
 exact⟨g10,g11,UA,RA,uc,rc,rfl,rfl,hx0,h10,h11,hA,hP⟩
 ):P:=h
theorem yV07c1 {P:Prop}(h:P:=by
 refine zb fun K hK=>?_
 go_simp
 refine (hTP.out _ hx0).mono ?_
 rintro e w23 ⟨RA,rc,rfl,hP,hx1⟩
 replace hx0:=hx0.trans hx1
 replace h10:=h10.ext hx1
 replace h11:=h11.ext hx1
 replace hA:=hA.ext hx1
 clear hx1
 refine hK.out _ _ ?_
 refine pT ?_
 exact yV07d1
 ):P:=h
theorem yV07b1 {P:Prop}(h:P:=by
 refine ze fun K hK=>?_;go_simp
 refine (hTA.out _ hx0).mono ?_
 rintro e w22 ⟨UA,uc,rfl,hA,hx1⟩
 replace hx0:=hx0.trans hx1
 replace h10:=h10.ext hx1
 replace h11:=h11.ext hx1
 clear hx1
 refine hK.out _ _ hx0 ?_
 refine pT ?_
 exact yV07c1
 ):P:=h
theorem yV07c2 {P:Prop}(h:P:=by
 exact yV07d1
 ):P:=h
theorem yV07b3 {P:Prop}(h:P:=by
 refine ze fun K hK=>?_;go_simp
 have hne:=Nat.ne_of_lt h11.lt
 have hGh10:=hx0.size
 have hx1:=(Ext.refl w22).alloc (.cells #[.slice none 0 0] 154)
 replace hx0:=hx0.trans hx1
 replace h11:=h11.ext hx1
 replace hA:=hA.ext hx1
 replace hP:=hP.ext hx1
 clear hx1
 have h10:=Blk.new w22 154 #[.slice none 0 0]
 refine hK.out _ _ hx0 ?_
 refine pT ?_
 generalize w22.alloc (.cells #[.slice none 0 0] 154)=w23 at *
 generalize w22.heap.size=g10 at *
 exact yV07c2
 ):P:=h
theorem yV07b4 {P:Prop}(h:P:=by
 exact yV07c1
 ):P:=h
theorem reads_blk {w:World} {g lo hi:Nat} {t:TypeId} {v:Value}(h:Blk w g t #[v])(h1:lo≤g)(h2:g<hi):Reads w lo hi 1 (some ⟨g,0,none⟩) 1 [v]:=
 ⟨rfl,by omega,fun _=>⟨_,rfl,h1,h2,fun j u hu=>by
  rw [zP,Nat.zero_add,h.cell]
  simpa using hu⟩⟩
theorem yV07a1 {P:Prop}(h:P:=by
 refine zB (fun K hK=>?_) (fun K hK=>?_)
 ·go_simp
  refine (hTA.out _ hx0).mono ?_
  rintro e w21 ⟨UA,uc,rfl,hA,hx1⟩
  replace hx0:=hx0.trans hx1
  replace h11:=h11.ext hx1
  clear hx1
  refine hK.out _ _ hx0 ?_
  refine pT ?_
  refine zB (fun K hK=>?_) (fun K hK=>?_)
  ·go_simp
   refine (hTP.out _ hx0).mono ?_
   rintro e w22 ⟨RA,rc,rfl,hP,hx1⟩
   replace hx0:=hx0.trans hx1
   replace h11:=h11.ext hx1
   replace hA:=hA.ext hx1
   clear hx1
   refine hK.out _ _ hx0 ?_
   refine pT ?_
   exact yV07b3
  ·go_simp
   have hne:=Nat.ne_of_lt h11.lt
   have hGh10:=hx0.size
   have hx1:=(Ext.refl w21).alloc (.cells #[.slice none 0 0] 154)
   replace hx0:=hx0.trans hx1
   replace h11:=h11.ext hx1
   replace hA:=hA.ext hx1
   clear hx1
   have h10:=Blk.new w21 154 #[.slice none 0 0]
   refine hK.out _ _ hx0 ?_
   refine pT ?_
   generalize w21.alloc (.cells #[.slice none 0 0] 154)=w22 at *
   generalize w21.heap.size=g10 at *
   exact yV07b4
 ·go_simp
  have hne:=Nat.ne_of_lt h11.lt
  have hGh10:=hx0.size
  have hx1:=(Ext.refl w20).alloc (.cells #[.slice none 0 0] 154)
  replace hx0:=hx0.trans hx1
  replace h11:=h11.ext hx1
  clear hx1
  have h10:=Blk.new w20 154 #[.slice none 0 0]
  refine hK.out _ _ hx0 ?_
  refine pT ?_
  generalize w20.alloc (.cells #[.slice none 0 0] 154)=w21 at *
  generalize w20.heap.size=g10 at *
  exact yV07b1
 ):P:=h
theorem yV07b2 {P:Prop}(h:P:=by
 refine ze fun K hK=>?_;go_simp
 have hne:=Nat.ne_of_lt h10.lt
 have hGh11:=hx0.size
 have hx1:=(Ext.refl w22).alloc (.cells #[.slice none 0 0] 154)
 replace hx0:=hx0.trans hx1
 replace h10:=h10.ext hx1
 replace hA:=hA.ext hx1
 replace hP:=hP.ext hx1
 clear hx1
 have h11:=Blk.new w22 154 #[.slice none 0 0]
 refine hK.out _ _ hx0 ?_
 refine pT ?_
 generalize w22.alloc (.cells #[.slice none 0 0] 154)=w23 at *
 generalize w22.heap.size=g11 at *
 exact yV07c2
 ):P:=h
theorem yV07a2 {P:Prop}(h:P:=by
 refine zB (fun K hK=>?_) (fun K hK=>?_)
 ·go_simp
  refine (hTA.out _ hx0).mono ?_
  rintro e w21 ⟨UA,uc,rfl,hA,hx1⟩
  replace hx0:=hx0.trans hx1
  replace h10:=h10.ext hx1
  clear hx1
  refine hK.out _ _ hx0 ?_
  refine pT ?_
  refine zB (fun K hK=>?_) (fun K hK=>?_)
  ·go_simp
   refine (hTP.out _ hx0).mono ?_
   rintro e w22 ⟨RA,rc,rfl,hP,hx1⟩
   replace hx0:=hx0.trans hx1
   replace h10:=h10.ext hx1
   replace hA:=hA.ext hx1
   clear hx1
   refine hK.out _ _ hx0 ?_
   refine pT ?_
   exact yV07b2
  ·go_simp
   have hne:=Nat.ne_of_lt h10.lt
   have hGh11:=hx0.size
   have hx1:=(Ext.refl w21).alloc (.cells #[.slice none 0 0] 154)
   replace hx0:=hx0.trans hx1
   replace h10:=h10.ext hx1
   replace hA:=hA.ext hx1
   clear hx1
   have h11:=Blk.new w21 154 #[.slice none 0 0]
   refine hK.out _ _ hx0 ?_
   refine pT ?_
   generalize w21.alloc (.cells #[.slice none 0 0] 154)=w22 at *
   generalize w21.heap.size=g11 at *
   exact yV07b4
 ·go_simp
  have hne:=Nat.ne_of_lt h10.lt
  have hGh11:=hx0.size
  have hx1:=(Ext.refl w20).alloc (.cells #[.slice none 0 0] 154)
  replace hx0:=hx0.trans hx1
  replace h10:=h10.ext hx1
  clear hx1
  have h11:=Blk.new w20 154 #[.slice none 0 0]
  refine hK.out _ _ hx0 ?_
  refine pT ?_
  generalize w20.alloc (.cells #[.slice none 0 0] 154)=w21 at *
  generalize w20.heap.size=g11 at *
  exact yV07b1
 ):P:=h
theorem yV07c3 {P:Prop}(h:P:=by
 refine zb fun K hK=>?_
 go_simp
 refine (key.out _ hx0 _ _ _ _ _ hI hIL).mono ?_
 rintro e w23 ⟨hx1,hcase⟩
 have hx2:=hw9.trans (hx0.trans hx1)
 rcases hcase with ⟨v,rfl,hF⟩|⟨rfl,hF⟩
 ·have hres:=za (show zY w (zbB ss a p) [0] (zbX a p) (letters (U|||al) 6) _ w23 from ⟨hx2,Or.inl ⟨v,rfl,hF⟩⟩)
  refine hK.out _ _ ?_
  refine pT ?_
  refine uQ ?_
  refine zh ?_
  go_wp2_with fail
  go_ret2
  exact hres.out
 ·have hres:=za (show zY w (zbB ss a p) [0] (zbX a p) (letters (U|||al) 6) _ w23 from ⟨hx2,Or.inr ⟨rfl,hF⟩⟩)
  refine hK.out _ _ ?_
  refine pT ?_
  refine uQ ?_
  refine zh ?_
  go_wp2_with fail
  go_ret2
  exact hres.out
 ):P:=h
theorem yV07b6 {P:Prop}(h:P:=by
 exact yV07c3
 ):P:=h
theorem yV07a3 {P:Prop}(h:P:=by
 refine hK.out _ _ hx0 ?_
 refine pT ?_
 refine uQ ?_
 refine zB (fun K hK=>?_) (fun K hK=>?_)
 ·go_simp
  have hI:=zdi (x:=0) (Blk.new w20 3 #[.int .i64 ((0:Nat):Int)])
  have hx1:=(Ext.refl w20).alloc (.cells #[.int .i64 ((0:Nat):Int)] 3)
  replace hx0:=hx0.trans hx1
  clear hx1
  refine hK.out _ _ hx0 ?_
  refine pT ?_
  generalize w20.alloc (.cells #[.int .i64 ((0:Nat):Int)] 3)=w21 at *
  generalize w20.heap.size=g1 at *
  refine ze fun K hK=>?_;go_simp
  refine (hLT.out w21).mono ?_
  rintro e w22 ⟨AL,cL,rfl,hownL,hx1⟩
  have hIL:=zV.own hownL
  clear hownL
  replace hx0:=hx0.trans hx1
  replace hI:=hI.ext hx1
  clear hx1
  refine hK.out _ _ hx0 ?_
  refine pT ?_
  exact yV07b6
 ·go_simp
  refine (hLT.out w20).mono ?_
  rintro e w21 ⟨AL,cL,rfl,hownL,hx1⟩
  have hIL:=zV.own hownL
  clear hownL
  replace hx0:=hx0.trans hx1
  clear hx1
  refine hK.out _ _ hx0 ?_
  refine pT ?_
  refine ze fun K hK=>?_;go_simp
  have hI:=zdi (x:=0) (Blk.new w21 3 #[.int .i64 ((0:Nat):Int)])
  have hx1:=(Ext.refl w21).alloc (.cells #[.int .i64 ((0:Nat):Int)] 3)
  replace hx0:=hx0.trans hx1
  replace hIL:=hIL.ext hx1
  clear hx1
  refine hK.out _ _ hx0 ?_
  refine pT ?_
  generalize w21.alloc (.cells #[.int .i64 ((0:Nat):Int)] 3)=w22 at *
  generalize w21.heap.size=g1 at *
  exact yV07b6
 ):P:=h
theorem yV07a4 {P:Prop}(h:P:=by
 refine ze fun K hK=>?_;go_simp
 refine hK.out _ _ hx0 ?_
 refine pT ?_
 refine uQ ?_
 exact yV07b1
 ):P:=h
theorem yV07a5 {P:Prop}(h:P:=by
 exact yV07b2
 ):P:=h
theorem yV07a6 {P:Prop}(h:P:=by
 exact yV07b3
 ):P:=h
theorem yV07a7 {P:Prop}(h:P:=by
 exact yV07b4
 ):P:=h
theorem yV07a8 {P:Prop}(h:P:=by
 have Kh12:=h12.cell 0
 have Zh12:=h12.frozen 0
 refine ze fun K hK=>?_;go_simp
 have hx2:=hx0.frm (Frm.setCell w21 g12 0 (.int .i64 (a.next.length:Nat))) (fun k hk e=>by have:=hGh12;omega)
 have h122:Blk (w21.setCell ⟨g12,0,none⟩ (.int .i64 (a.next.length:Nat))) g12 3 #[.int .i64 (a.next.length:Nat)]:=by simpa using h12.set_ 0 (.int .i64 (a.next.length:Nat))
 have h132:=h13.far (p:=⟨g12,0,none⟩) (by first|exact hne|exact hne.symm) (.int .i64 (a.next.length:Nat))
 refine hK.out _ _ hx2 ?_
 refine pT ?_
 clear h12 h13 Kh12 Zh12 hx0
 generalize w21.setCell ⟨g12,0,none⟩ (.int .i64 (a.next.length:Nat))=w22 at *
 have h12:=h122;have h13:=h132;have hx0:=hx2
 clear h122 h132 hx2
 have Kh13:=h13.cell 0
 have Zh13:=h13.frozen 0
 refine zb fun K hK=>?_
 go_simp
 have hx2:=hx0.frm (Frm.setCell w22 g13 0 (.int .i64 (p.next.length:Nat))) (fun k hk e=>by have:=hGh13;omega)
 have h132:Blk (w22.setCell ⟨g13,0,none⟩ (.int .i64 (p.next.length:Nat))) g13 3 #[.int .i64 (p.next.length:Nat)]:=by simpa using h13.set_ 0 (.int .i64 (p.next.length:Nat))
 have h122:=h12.far (p:=⟨g13,0,none⟩) (by first|exact hne|exact hne.symm) (.int .i64 (p.next.length:Nat))
 refine hK.out _ _ ?_
 refine pT ?_
 clear h12 h13 Kh13 Zh13 hx0
 generalize w22.setCell ⟨g13,0,none⟩ (.int .i64 (p.next.length:Nat))=w23 at *
 have h12:=h122;have h13:=h132;have hx0:=hx2
 clear h122 h132 hx2
 refine zh ?_
 go_wp2_with fail
 go_meet
 exact⟨g12,g13,rfl,rfl,hx0,h12,h13⟩
 ):P:=h
theorem yV07b5 {P:Prop}(h:P:=by
 refine hK.out _ _ hx0 ?_
 refine pT ?_
 refine uQ ?_
 refine ze fun K hK=>?_;go_simp
 refine (hLT.out w21).mono ?_
 rintro e w22 ⟨AL,cL,rfl,hownL,hx1⟩
 have hIL:=zV.own hownL
 clear hownL
 replace hx0:=hx0.trans hx1
 replace hI:=hI.ext hx1
 clear hx1
 refine hK.out _ _ hx0 ?_
 refine pT ?_
 exact yV07c3
 ):P:=h
theorem yV07a9 {P:Prop}(h:P:=by
 refine ze fun K hK=>?_;go_simp
 refine (hSZ.out _ hx0).mono ?_
 rintro e w21 ⟨rfl,hx1⟩
 replace hx0:=hx0.trans hx1
 replace hI:=hI.ext hx1
 clear hx1
 exact yV07b5
 ):P:=h
theorem yV07a10 {P:Prop}(h:P:=by
 refine ze fun K hK=>?_;go_simp
 exact yV07b5
 ):P:=h
theorem zbH {lo hi k c:Nat} {A:Option Addr} {ss:List Sys} {C:Option Addr} {m2 d2:Nat} {C':Option Addr} {m2' d2' lo2 hi2:Nat} {p:Aut} {w:World}
  (h:SLAt w lo hi A k ss) (hap:zH ss=true) (hT:Tab w) (hP0:zaS w lo2 hi2 C m2 C' m2' p) (hp:zx p=true) :
  Calls Tryd.prog 106 #[.slice A k c,.pointer none,.agg #[.int .i64 p.al,.slice C m2 d2,.slice C' m2' d2']] w (zY w (zbB ss free p) [0] (zbX free p) (letters (zaq ss|||free.al.toNat) 6)):=by
 have hv:=zcy
 obtain⟨a,hfa⟩:∃ a,Hid (a=free):=⟨_,rfl⟩
 rw [← hfa.out] at hv ⊢
 have hsv:∀ s∈ss,zk s=true:=by
  unfold zH at hap
  simp only [Bool.and_eq_true,List.all_eq_true] at hap
  exact hap.2.2
 have hk3:k≤3:=by
  unfold zH at hap
  simp only [Bool.and_eq_true,decide_eq_true_eq] at hap
  have:=h.1
  omega
 have hsl:=za (fun (s:Sys) (hs:s∈ss)=>sml_of (hsv s hs))
 have hf16:=za (fun (s:Sys) (hs:s∈ss)=>show Few 16 s.edges from by
  obtain⟨q,_,_,hq,hf⟩:=zan (hsv s hs)
  exact fun e he=>by have:=hf e he;omega)
 have hU:zaq ss≤63:=by
  have key:∀ l:List Sys,(∀ s∈l,zk s=true)→zaq l≤63:=by
   intro l hl
   have:∀ n,zaq (l.take n)≤63:=by
    intro n
    induction n with
    |zero=>simp [zaq]
    |succ n ih =>
     rcases Nat.lt_or_ge n l.length with h1|h1
     ·rw [zdv (List.getElem?_eq_getElem h1)]
      have:=zdt (hl _ (List.getElem_mem h1))
      have:=Nat.or_lt_two_pow (n:=6) (x:=zaq (l.take n)) (y:=l[n].al.toNat) (by omega) (by omega)
      omega
     ·rw [List.take_of_length_le (by omega)]
      rw [List.take_of_length_le h1] at ih
      exact ih
   have h2:=this l.length
   rwa [List.take_length] at h2
  exact key ss hsv
 have hal:=(zy hv).1
 obtain⟨al,hale⟩:∃ al:Nat,Hid (a.al=al):=⟨a.al.toNat,by unfold Hid;omega⟩
 have hal6:al≤63:=by have:=hale.out;omega
 have hpa:=za (show zcH ss=(zaq ss:Int) by unfold zcH;rw [hap];rfl)
 have hap3:=za (show a.al.toNat=al by have:=hale.out;omega)
 have hpal:=za (show 0≤p.al∧p.al≤63 from (zy hp).1)
 rw [hap3.out]
 have HS:=za (fun W (hW:Ext w W)=>h.ext hW)
 have HT:=za (fun W (hW:Ext w W)=>hT.ext hW)
 have HP:=za (fun W (hW:Ext w W)=>hP0.ext hW)
 have Hv:=za hv
 have Hp:=za hp
 generalize hUe:zaq ss=U at *
 have HU:=za hUe
 clear hUe h hT hP0 hv hp hap hsv hal
 go_enter Tryd.func106,Tryd.ntmps106
 go_upto_region 1 with fail
 have hw2:Ext w ((w.alloc (.cells #[.pointer none] 148)).alloc (.cells #[.int .i64 p.al,.slice C m2 d2,.slice C' m2' d2'] 30)):=((Ext.refl w).alloc _).alloc _
 obtain⟨b4,b5⟩:=zv (Ext.refl ((w.alloc (.cells #[.pointer none] 148)).alloc (.cells #[.int .i64 p.al,.slice C m2 d2,.slice C' m2' d2'] 30)))
 generalize (w.alloc (.cells #[.pointer none] 148)).alloc (.cells #[.int .i64 p.al,.slice C m2 d2,.slice C' m2' d2'] 30)=w2 at *
 go_upto_region 2 with (go_at_call 123;refine (zea (HS.out _ hw2) hf16.out (by omega)).mono ?_;rintro e w3 ⟨M,dm,rfl,hpt,hx3⟩)
 have hw3:=hw2.trans hx3
 have b8:=Blk.new w3 151 #[.slice A k c,.slice M k dm]
 have hx4:=hx3.alloc (.cells #[.slice A k c,.slice M k dm] 151)
 have hpt4:=hpt.ext ((Ext.refl w3).alloc (.cells #[.slice A k c,.slice M k dm] 151))
 have hg8n:w2.heap.size≤w3.heap.size:=hx3.size
 generalize hg8:w3.heap.size=g8 at *
 clear hpt hg8
 generalize w3.alloc (.cells #[.slice A k c,.slice M k dm] 151)=w4 at *
 have hw4:=hw2.trans hx4
 clear hw3 hx3
 go_upto_region 3 with (go_at_call 124;refine (zch (HS.out _ hw4)).mono ?_;rw [hpa.out];rintro e w5 ⟨rfl,hx5⟩)
 have b45:=b4.ext (hx4.trans hx5)
 have b55:=b5.ext (hx4.trans hx5)
 have b85:=b8.ext hx5
 have hpt5:=hpt4.ext hx5
 have hw5':=hw4.trans hx5
 have hs25:=(hx4.trans hx5).size
 have hl2:=b5.lt
 have hg8':=b8.lt
 have hs2g:w2.heap.size≤g8:=hg8n
 have k4:=b45.cell 0
 have z4:=b45.frozen 0
 clear hx4 hx5 b4 b5 b8 hpt4 hw2 hw4
 go_upto_region 4 with fail
 clear k4 z4
 have hn1:=Blk.new w5 62 #[.slice none 0 0]
 have hm1:=(Ext.refl w5).alloc (.cells #[.slice none 0 0] 62)
 have hs1:(w5.alloc (.cells #[.slice none 0 0] 62)).heap.size=w5.heap.size+1:=by simp
 have hn2:=Blk.new (w5.alloc (.cells #[.slice none 0 0] 62)) 4 #[.bool true]
 rw [hs1] at hn2
 have hm2:=(Ext.refl (w5.alloc (.cells #[.slice none 0 0] 62))).alloc (.cells #[.bool true] 4)
 have hs2:((w5.alloc (.cells #[.slice none 0 0] 62)).alloc (.cells #[.bool true] 4)).heap.size=w5.heap.size+1+1:=by simp
 have hn3:=Blk.new ((w5.alloc (.cells #[.slice none 0 0] 62)).alloc (.cells #[.bool true] 4)) 30 #[.int .i64 0,.slice (some ⟨w5.heap.size,0,none⟩) 1 1,.slice (some ⟨w5.heap.size+1,0,none⟩) 1 1]
 rw [hs2] at hn3
 have hm3:=(Ext.refl ((w5.alloc (.cells #[.slice none 0 0] 62)).alloc (.cells #[.bool true] 4))).alloc (.cells #[.int .i64 0,.slice (some ⟨w5.heap.size,0,none⟩) 1 1,.slice (some ⟨w5.heap.size+1,0,none⟩) 1 1] 30)
 replace hn1:=hn1.ext (hm2.trans hm3)
 replace hn2:=hn2.ext hm3
 have hm:=hm1.trans (hm2.trans hm3)
 have b46:=b45.ext hm
 have b56:=b55.ext hm
 have b86:=b85.ext hm
 have hpt6:=hpt5.ext hm
 have k4:=b46.cell 0
 have z4:=b46.frozen 0
 have hw6:=hw5'.trans hm
 clear hm1 hm2 hm3 hm hs1 hs2 b45 b55 b85 hpt5
 go_upto_region 5 with fail
 have hgz:w.heap.size<w5.heap.size:=by have:=hw5'.size;omega
 generalize w5.heap.size=z1 at *
 generalize ((w5.alloc (.cells #[.slice none 0 0] 62)).alloc (.cells #[.bool true] 4)).alloc (.cells #[.int .i64 0,.slice (some ⟨z1,0,none⟩) 1 1,.slice (some ⟨z1+1,0,none⟩) 1 1] 30)=w6 at *
 have hset:=Frm.setCell w6 w.heap.size 0 (.pointer (some ⟨z1+1+1,0,none⟩))
 have b47:Blk (w6.setCell ⟨w.heap.size,0,none⟩ (.pointer (some ⟨z1+1+1,0,none⟩))) w.heap.size 148 #[.pointer (some ⟨z1+1+1,0,none⟩)]:=by simpa using b46.set_ 0 (.pointer (some ⟨z1+1+1,0,none⟩))
 have b57:=b56.frm hset (by omega)
 have b87:=b86.frm hset (by omega)
 have hn17:=hn1.frm hset (by omega)
 have hn27:=hn2.frm hset (by omega)
 have hn37:=hn3.frm hset (by omega)
 have hw7:=hw6.frm hset (fun k hk e=>by omega)
 have hpt7:PtAt (w6.setCell ⟨w.heap.size,0,none⟩ (.pointer (some ⟨z1+1+1,0,none⟩))) lo hi A k w2.heap.size g8 M ss:=by
  obtain⟨bs,hr,hmv⟩:=hpt6.mov
  exact⟨HS.out _ hw7,bs,hr.frm hset (fun k h1 h2 e=>by omega),hmv.frm hset (fun b cs hB e=>by
   subst e
   exact absurd rfl (hB.ne b46 (by decide)))⟩
 clear hn1 hn2 hn3 b46 b56 b86 hpt6 hset k4 z4
 generalize w6.setCell ⟨w.heap.size,0,none⟩ (.pointer (some ⟨z1+1+1,0,none⟩))=w5 at *
 obtain⟨ga,B,m1,d1,B',m1',d1',lo1,hi1,hB4z,hGa,hAa⟩:∃ (ga:Nat) (B:Option Addr) (m1 d1:Nat) (B':Option Addr) (m1' d1' lo1 hi1:Nat),Blk w5 w.heap.size 148 #[.pointer (some ⟨ga,0,none⟩)]∧Blk w5 ga 30 #[.int .i64 a.al,.slice B m1 d1,.slice B' m1' d1']∧zaS w5 lo1 hi1 B m1 B' m1' a:=by
  refine⟨z1+1+1,some ⟨z1,0,none⟩,1,1,some ⟨z1+1,0,none⟩,1,1,z1,z1+2,b47,by rw [hfa.out];exact hn37,?_⟩
  rw [hfa.out]
  refine⟨⟨rfl,[.slice none 0 0],reads_blk hn17 (Nat.le_refl _) (by omega),rfl,fun i row l hr hl=>?_⟩,rfl,reads_blk hn27 (by omega) (by omega)⟩
  cases i with
  |zero =>
   simp at hr
   simp [free] at hl
   subst hr;subst hl
   exact⟨none,0,rfl,Reads.nil⟩
  |succ i=>simp at hr
 have hB4:=za (fun W (hW:Ext w5 W)=>hB4z.ext hW)
 have hB5:=za (fun W (hW:Ext w5 W)=>b57.ext hW)
 have hB8:=za (fun W (hW:Ext w5 W)=>b87.ext hW)
 have hPT:=za (fun W (hW:Ext w5 W)=>hpt7.ext hW)
 have HGA5:=za (fun W (hW:Ext w5 W)=>hGa.ext hW)
 have HA5:=za (fun W (hW:Ext w5 W)=>hAa.ext hW)
 have hw5:=hw7
 clear hw7 hw6 hw5' hn17 hn27 hn37 b47 b57 b87 hpt7 hGa hAa hB4z hgz hg8' hg8n hs2g hl2 hs25
 go_cut [10,11] (fun v10 v11 wx=>∃ (g10 g11:Nat) (UA RA:Option Addr) (uc rc:Nat),v10=.pointer (some ⟨g10,0,none⟩)∧v11=.pointer (some ⟨g11,0,none⟩)∧Ext w5 wx∧Blk wx g10 154 #[.slice UA a.next.length uc]∧Blk wx g11 154 #[.slice RA p.next.length rc]∧TbO wx UA uc a∧TbO wx RA rc p)
 case first =>
  have c4:∀ W,Ext w5 W→W.cell? ⟨w.heap.size,0,none⟩=some (.pointer (some ⟨ga,0,none⟩)):=fun W hW=>by rw [(hB4.out W hW).cell];rfl
  have ca:∀ W,Ext w5 W→∀ j,W.cell? ⟨ga,j,none⟩=#[Value.int .i64 a.al,.slice B m1 d1,.slice B' m1' d1'][j]?:=fun W hW=>(HGA5.out W hW).cell
  have c5:∀ W,Ext w5 W→∀ j,W.cell? ⟨w.heap.size+1,j,none⟩=#[Value.int .i64 p.al,.slice C m2 d2,.slice C' m2' d2'][j]?:=fun W hW=>(hB5.out W hW).cell
  have hTA:=za (fun W (hW:Ext w5 W)=>zcG (d:=d1) (d':=d1') (HA5.out W hW) Hv.out)
  have hTP:=za (fun W (hW:Ext w5 W)=>zcG (d:=d2) (d':=d2') (HP.out W (hw5.trans hW)) Hp.out)
  have hww:=Ext.refl w5
  refine uR (fun X=>Ext w5 X) [5,8,9] (zE.app [0,4] (zE.three 1 (zE.app [2] (zE.three 3 (zE.three 5 (zE.two 6 (zE.of [7,8,9]) 7 (zE.of [6,8,9])) 6 (zE.two 5 (zE.of [7,8,9]) 7 (zE.of [5,8,9])) 7 (zE.two 5 (zE.of [6,8,9]) 6 (zE.of [5,8,9]))) 6 (zE.two 3 (zE.two 5 (zE.of [7,8,9]) 7 (zE.of [5,8,9])) 7 (zE.of [3,5,8,9])) 7 (zE.two 3 (zE.two 5 (zE.of [6,8,9]) 6 (zE.of [5,8,9])) 6 (zE.of [3,5,8,9])))) 6 (zE.two 1 (zE.app [2] (zE.two 3 (zE.two 5 (zE.of [7,8,9]) 7 (zE.of [5,8,9])) 7 (zE.of [3,5,8,9]))) 7 (zE.of [1,2,3,5,8,9])) 7 (zE.two 1 (zE.app [2] (zE.two 3 (zE.two 5 (zE.of [6,8,9]) 6 (zE.of [5,8,9])) 6 (zE.of [3,5,8,9]))) 6 (zE.of [1,2,3,5,8,9])))) ?_
  refine uQ ?_
  have hx0:Ext w5 w5.drew:=hww.drew
  generalize w5.drew=wd at *
  refine uQ ?_
  refine zbG (fun K hK=>?_) (fun K hK=>?_) (fun K hK=>?_)
  ·go_simp
   refine hK.out _ _ hx0 ?_
   refine pT ?_
   refine uQ ?_
   refine zbG (fun K hK=>?_) (fun K hK=>?_) (fun K hK=>?_)
   ·go_simp
    refine (hTA.out _ hx0).mono ?_
    rintro e w20 ⟨UA,uc,rfl,hA,hx1⟩
    replace hx0:=hx0.trans hx1
    clear hx1
    refine hK.out _ _ hx0 ?_
    refine pT ?_
    refine zbG (fun K hK=>?_) (fun K hK=>?_) (fun K hK=>?_)
    ·go_simp
     refine (hTP.out _ hx0).mono ?_
     rintro e w21 ⟨RA,rc,rfl,hP,hx1⟩
     replace hx0:=hx0.trans hx1
     replace hA:=hA.ext hx1
     clear hx1
     refine hK.out _ _ hx0 ?_
     refine pT ?_
     refine zB (fun K hK=>?_) (fun K hK=>?_)
     ·go_simp
      have hGh10:=hx0.size
      have hx1:=(Ext.refl w21).alloc (.cells #[.slice none 0 0] 154)
      replace hx0:=hx0.trans hx1
      replace hA:=hA.ext hx1
      replace hP:=hP.ext hx1
      clear hx1
      have h10:=Blk.new w21 154 #[.slice none 0 0]
      refine hK.out _ _ hx0 ?_
      refine pT ?_
      generalize w21.alloc (.cells #[.slice none 0 0] 154)=w22 at *
      generalize w21.heap.size=g10 at *
      exact yV07a5
     ·go_simp
      have hGh11:=hx0.size
      have hx1:=(Ext.refl w21).alloc (.cells #[.slice none 0 0] 154)
      replace hx0:=hx0.trans hx1
      replace hA:=hA.ext hx1
      replace hP:=hP.ext hx1
      clear hx1
      have h11:=Blk.new w21 154 #[.slice none 0 0]
      refine hK.out _ _ hx0 ?_
      refine pT ?_
      generalize w21.alloc (.cells #[.slice none 0 0] 154)=w22 at *
      generalize w21.heap.size=g11 at *
      exact yV07a6
    ·go_simp
     have hGh10:=hx0.size
     have hx1:=(Ext.refl w20).alloc (.cells #[.slice none 0 0] 154)
     replace hx0:=hx0.trans hx1
     replace hA:=hA.ext hx1
     clear hx1
     have h10:=Blk.new w20 154 #[.slice none 0 0]
     refine hK.out _ _ hx0 ?_
     refine pT ?_
     generalize w20.alloc (.cells #[.slice none 0 0] 154)=w21 at *
     generalize w20.heap.size=g10 at *
     refine zB (fun K hK=>?_) (fun K hK=>?_)
     ·go_simp
      refine (hTP.out _ hx0).mono ?_
      rintro e w22 ⟨RA,rc,rfl,hP,hx1⟩
      replace hx0:=hx0.trans hx1
      replace h10:=h10.ext hx1
      replace hA:=hA.ext hx1
      clear hx1
      refine hK.out _ _ hx0 ?_
      refine pT ?_
      exact yV07a5
     ·go_simp
      have hne:=Nat.ne_of_lt h10.lt
      have hGh11:=hx0.size
      have hx1:=(Ext.refl w21).alloc (.cells #[.slice none 0 0] 154)
      replace hx0:=hx0.trans hx1
      replace h10:=h10.ext hx1
      replace hA:=hA.ext hx1
      clear hx1
      have h11:=Blk.new w21 154 #[.slice none 0 0]
      refine hK.out _ _ hx0 ?_
      refine pT ?_
      generalize w21.alloc (.cells #[.slice none 0 0] 154)=w22 at *
      generalize w21.heap.size=g11 at *
      exact yV07a7
    ·go_simp
     have hGh11:=hx0.size
     have hx1:=(Ext.refl w20).alloc (.cells #[.slice none 0 0] 154)
     replace hx0:=hx0.trans hx1
     replace hA:=hA.ext hx1
     clear hx1
     have h11:=Blk.new w20 154 #[.slice none 0 0]
     refine hK.out _ _ hx0 ?_
     refine pT ?_
     generalize w20.alloc (.cells #[.slice none 0 0] 154)=w21 at *
     generalize w20.heap.size=g11 at *
     refine zB (fun K hK=>?_) (fun K hK=>?_)
     ·go_simp
      refine (hTP.out _ hx0).mono ?_
      rintro e w22 ⟨RA,rc,rfl,hP,hx1⟩
      replace hx0:=hx0.trans hx1
      replace h11:=h11.ext hx1
      replace hA:=hA.ext hx1
      clear hx1
      refine hK.out _ _ hx0 ?_
      refine pT ?_
      exact yV07a6
     ·go_simp
      have hne:=Nat.ne_of_lt h11.lt
      have hGh10:=hx0.size
      have hx1:=(Ext.refl w21).alloc (.cells #[.slice none 0 0] 154)
      replace hx0:=hx0.trans hx1
      replace h11:=h11.ext hx1
      replace hA:=hA.ext hx1
      clear hx1
      have h10:=Blk.new w21 154 #[.slice none 0 0]
      refine hK.out _ _ hx0 ?_
      refine pT ?_
      generalize w21.alloc (.cells #[.slice none 0 0] 154)=w22 at *
      generalize w21.heap.size=g10 at *
      exact yV07a7
   ·go_simp
    have hGh10:=hx0.size
    have hx1:=(Ext.refl wd).alloc (.cells #[.slice none 0 0] 154)
    replace hx0:=hx0.trans hx1
    clear hx1
    have h10:=Blk.new wd 154 #[.slice none 0 0]
    refine hK.out _ _ hx0 ?_
    refine pT ?_
    generalize wd.alloc (.cells #[.slice none 0 0] 154)=w20 at *
    generalize wd.heap.size=g10 at *
    exact yV07a2
   ·go_simp
    have hGh11:=hx0.size
    have hx1:=(Ext.refl wd).alloc (.cells #[.slice none 0 0] 154)
    replace hx0:=hx0.trans hx1
    clear hx1
    have h11:=Blk.new wd 154 #[.slice none 0 0]
    refine hK.out _ _ hx0 ?_
    refine pT ?_
    generalize wd.alloc (.cells #[.slice none 0 0] 154)=w20 at *
    generalize wd.heap.size=g11 at *
    exact yV07a1
  ·go_simp
   have hGh10:=hx0.size
   have hx1:=(Ext.refl wd).alloc (.cells #[.slice none 0 0] 154)
   replace hx0:=hx0.trans hx1
   clear hx1
   have h10:=Blk.new wd 154 #[.slice none 0 0]
   refine hK.out _ _ hx0 ?_
   refine pT ?_
   generalize wd.alloc (.cells #[.slice none 0 0] 154)=w20 at *
   generalize wd.heap.size=g10 at *
   refine zB (fun K hK=>?_) (fun K hK=>?_)
   ·go_simp
    refine hK.out _ _ hx0 ?_
    refine pT ?_
    refine uQ ?_
    exact yV07a2
   ·go_simp
    have hne:=Nat.ne_of_lt h10.lt
    have hGh11:=hx0.size
    have hx1:=(Ext.refl w20).alloc (.cells #[.slice none 0 0] 154)
    replace hx0:=hx0.trans hx1
    replace h10:=h10.ext hx1
    clear hx1
    have h11:=Blk.new w20 154 #[.slice none 0 0]
    refine hK.out _ _ hx0 ?_
    refine pT ?_
    generalize w20.alloc (.cells #[.slice none 0 0] 154)=w21 at *
    generalize w20.heap.size=g11 at *
    exact yV07a4
  ·go_simp
   have hGh11:=hx0.size
   have hx1:=(Ext.refl wd).alloc (.cells #[.slice none 0 0] 154)
   replace hx0:=hx0.trans hx1
   clear hx1
   have h11:=Blk.new wd 154 #[.slice none 0 0]
   refine hK.out _ _ hx0 ?_
   refine pT ?_
   generalize wd.alloc (.cells #[.slice none 0 0] 154)=w20 at *
   generalize wd.heap.size=g11 at *
   refine zB (fun K hK=>?_) (fun K hK=>?_)
   ·go_simp
    refine hK.out _ _ hx0 ?_
    refine pT ?_
    refine uQ ?_
    exact yV07a1
   ·go_simp
    have hne:=Nat.ne_of_lt h11.lt
    have hGh10:=hx0.size
    have hx1:=(Ext.refl w20).alloc (.cells #[.slice none 0 0] 154)
    replace hx0:=hx0.trans hx1
    replace h11:=h11.ext hx1
    clear hx1
    have h10:=Blk.new w20 154 #[.slice none 0 0]
    refine hK.out _ _ hx0 ?_
    refine pT ?_
    generalize w20.alloc (.cells #[.slice none 0 0] 154)=w21 at *
    generalize w20.heap.size=g10 at *
    exact yV07a4
 case rest =>
  obtain⟨g10,g11,UA,RA,uc,rc,rfl,rfl,hx6,h10,h11,hA,hP⟩:=hcut
  have hH10:=za (fun W (hW:Ext wc W)=>h10.ext hW)
  have hH11:=za (fun W (hW:Ext wc W)=>h11.ext hW)
  have hw6:=hw5.trans hx6
  go_upto_region 6 with fail
  go_cut [12,13] (fun v12 v13 wx=>∃ (g12 g13:Nat),v12=.pointer (some ⟨g12,0,none⟩)∧v13=.pointer (some ⟨g13,0,none⟩)∧Ext wc wx∧Blk wx g12 3 #[.int .i64 (a.next.length:Nat)]∧Blk wx g13 3 #[.int .i64 (p.next.length:Nat)])
  case first =>
   have c10:∀ W,Ext wc W→W.cell? ⟨g10,0,none⟩=some (.slice UA a.next.length uc):=fun W hW=>by rw [(hH10.out W hW).cell];rfl
   have c11:∀ W,Ext wc W→W.cell? ⟨g11,0,none⟩=some (.slice RA p.next.length rc):=fun W hW=>by rw [(hH11.out W hW).cell];rfl
   have hww:=Ext.refl wc
   clear h10 h11 hA hP
   refine uR (fun X=>Ext wc X) [7] (zE.app [0,1,2,3] (zE.two 4 (zE.of [5,6,7]) 5 (zE.of [4,6,7]))) ?_
   refine uQ ?_
   have hx0:Ext wc wc.drew:=hww.drew
   generalize wc.drew=wd at *
   refine uQ ?_
   refine zB (fun K hK=>?_) (fun K hK=>?_)
   ·go_simp
    have hGh12:=hx0.size
    have hx1:=(Ext.refl wd).alloc (.cells #[.int .i64 0] 3)
    replace hx0:=hx0.trans hx1
    clear hx1
    have h12:=Blk.new wd 3 #[.int .i64 0]
    refine hK.out _ _ hx0 ?_
    refine pT ?_
    generalize wd.alloc (.cells #[.int .i64 0] 3)=w20 at *
    generalize wd.heap.size=g12 at *
    refine ze fun K hK=>?_;go_simp
    have hne:=Nat.ne_of_lt h12.lt
    have hGh13:=hx0.size
    have hx1:=(Ext.refl w20).alloc (.cells #[.int .i64 0] 3)
    replace hx0:=hx0.trans hx1
    replace h12:=h12.ext hx1
    clear hx1
    have h13:=Blk.new w20 3 #[.int .i64 0]
    refine hK.out _ _ hx0 ?_
    refine pT ?_
    generalize w20.alloc (.cells #[.int .i64 0] 3)=w21 at *
    generalize w20.heap.size=g13 at *
    exact yV07a8
   ·go_simp
    have hGh13:=hx0.size
    have hx1:=(Ext.refl wd).alloc (.cells #[.int .i64 0] 3)
    replace hx0:=hx0.trans hx1
    clear hx1
    have h13:=Blk.new wd 3 #[.int .i64 0]
    refine hK.out _ _ hx0 ?_
    refine pT ?_
    generalize wd.alloc (.cells #[.int .i64 0] 3)=w20 at *
    generalize wd.heap.size=g13 at *
    refine ze fun K hK=>?_;go_simp
    have hne:=Nat.ne_of_lt h13.lt
    have hGh12:=hx0.size
    have hx1:=(Ext.refl w20).alloc (.cells #[.int .i64 0] 3)
    replace hx0:=hx0.trans hx1
    replace h13:=h13.ext hx1
    clear hx1
    have h12:=Blk.new w20 3 #[.int .i64 0]
    refine hK.out _ _ hx0 ?_
    refine pT ?_
    generalize w20.alloc (.cells #[.int .i64 0] 3)=w21 at *
    generalize w20.heap.size=g12 at *
    exact yV07a8
  case rest =>
   obtain⟨g12,g13,rfl,rfl,hx7,h12,h13⟩:=hcut
   rename World=>w7
   have hw9:=hw6.trans hx7
   have hC:BCaps w7 g8 g10 g11 g12 g13 A M UA RA k c dm uc rc ss a p:=by
    obtain⟨lo3,hi3,htu⟩:=hA.at_
    obtain⟨lo4,hi4,htr⟩:=hP.at_
    exact⟨hB8.out _ (hx6.trans hx7),h10.ext hx7,h11.ext hx7,h12,h13,⟨_,_,_,_,hPT.out _ (hx6.trans hx7)⟩,⟨lo3,hi3,htu.ext hx7⟩,⟨lo4,hi4,htr.ext hx7⟩⟩
   have hGC:GCaps w7 w.heap.size ga (w.heap.size+1) g12 g13 a p:=⟨hB4.out _ (hx6.trans hx7),⟨B,m1,d1,B',m1',d1',lo1,hi1,HGA5.out _ (hx6.trans hx7),HA5.out _ (hx6.trans hx7)⟩,⟨C,m2,d2,C',m2',d2',lo2,hi2,hB5.out _ (hx6.trans hx7),HP.out _ hw9⟩,h12,h13⟩
   obtain⟨N,hN⟩:∃ N:Nat,Hid (zu (mems ss [a,p])=N):=⟨_,rfl⟩
   obtain⟨⟨_,n12⟩,⟨_,m12⟩⟩:=And.intro (zy Hv.out).2.1 (zy Hp.out).2.1
   obtain⟨⟨n1,_⟩,⟨m1_,_⟩⟩:=And.intro (zy Hv.out).2.1 (zy Hp.out).2.1
   obtain⟨S,hS⟩:∃ S:Nat,Hid (zu (ss.map zcl)=S):=⟨_,rfl⟩
   have hS4:1≤S∧S≤4096:=by
    rw [← hS.out]
    refine⟨zck hsl.out,Nat.le_trans (zbw hsl.out) ?_⟩
    have:=(HS.out w (Ext.refl _)).1
    calc 16 ^ ss.length≤16 ^ 3:=Nat.pow_le_pow_right (by omega) (by omega)
     _=4096:=by decide
   have hNe:S*a.next.length*p.next.length=N:=by
    rw [← hN.out,← hS.out,show mems ss [a,p]=ss.map zcl++[zbg a,zbg p] from rfl,zaJ]
    simp [zu,zaM,zbg,Nat.mul_assoc]
   have hSn:S*a.next.length≤4096*12:=Nat.mul_le_mul hS4.2 n12
   have hNle:N≤4096*12*12:=by rw [← hNe];exact Nat.mul_le_mul hSn m12
   have hN1:1≤N:=by rw [← hNe];exact Nat.mul_pos (Nat.mul_pos hS4.1 n1) m1_
   obtain⟨sn,hsn⟩:∃ z:Nat,Hid (S*a.next.length=z):=⟨_,rfl⟩
   rw [hsn.out] at hNe hSn
   have hsni:(S:Int)*(a.next.length:Int)=(sn:Int):=by rw [← hsn.out];exact (Int.natCast_mul S _).symm
   have hNi:(sn:Int)*(p.next.length:Int)=(N:Int):=by rw [← hNe];exact (Int.natCast_mul sn _).symm
   have Hd:=za (show ∀ x l,x<N→l<6→∀ y∈zbB ss a p x l,y<N from fun x l _ hl y hy=>by
    rw [zdW] at hy
    rw [← hN.out]
    refine pnx_lt (fun mm hmm=>?_) hl y hy
    rcases List.mem_append.1 hmm with h1|h1
    ·obtain⟨s,hs',rfl⟩:=List.mem_map.1 h1
     exact zei (hsl.out s hs')
    ·obtain⟨b,hb',rfl⟩:=List.mem_map.1 h1
     simp at hb'
     rcases hb' with rfl|rfl
     ·exact zbi Hv.out
     ·exact zbi Hp.out)
   have Hdl:=za (show ∀ x l,(zbB ss a p x l).length≤4096 from fun x l=>by
    unfold zbB
    rw [List.length_map]
    refine Nat.le_trans (nx_len hsl.out _ l) ?_
    have:=(HS.out w (Ext.refl _)).1
    calc 16 ^ ss.length≤16 ^ 3:=Nat.pow_le_pow_right (by omega) (by omega)
     _=4096:=by decide)
   have hrise:=za (letters_rise (U|||al))
   have key:=za (fun W (hW:Ext w7 W) A1 c1 AL q' cL (hA1:zV W A1 1 [0]) (hL:zV W AL q' (letters (U|||al) 6))=>zdZ (w:=W) (N:=N) (kn:=126) (kg:=128) (m:=1) (c:=c1) (cL:=cL)
    (capn:=#[.pointer (some ⟨g10,0,none⟩),.pointer (some ⟨g13,0,none⟩),.pointer (some ⟨g12,0,none⟩),.pointer (some ⟨g11,0,none⟩),.pointer (some ⟨g8,0,none⟩)])
    (capg:=#[.pointer (some ⟨w.heap.size,0,none⟩),.pointer (some ⟨g13,0,none⟩),.pointer (some ⟨g12,0,none⟩),.pointer (some ⟨w.heap.size+1,0,none⟩)])
    (goal:=zbX a p) (d:=zbB ss a p) (D:=4096) hA1 (fun n hn=>by simp at hn;omega) (by omega) hL hrise.out (by omega) (by omega) (fun args W=>by kernel_rfl) (fun args W=>by kernel_rfl)
    (fun W' hW' n hn=>brk_goal (hGC.ext (hW.trans hW')) Hv.out Hp.out (by omega))
    (fun n l hn hl=>⟨Hdl.out n l,Hd.out n l hn (hrise.out.1 l hl)⟩)
    (fun W' hW' n l hn hl base A m c xs hb0 hb hm zep=>brk_next (hC.ext hW) (HT.out _ (hw9.trans hW)) hW' hsl.out hk3 Hv.out Hp.out (by rw [hN.out];exact hn) (hrise.out.1 l hl) hb0 hb hm zep))
   have hSZ:=za (show ∀ W,Ext w7 W→Calls Tryd.prog 130 #[.agg #[.slice A k c,.slice M k dm]] W fun e w'=>e=.returned (.int .i64 (S:Nat))∧Ext W w' from fun W hW=>by
    have:=parts_size (c:=c) (dm:=dm) (hPT.out W ((hx6.trans hx7).trans hW)) hsl.out hk3
    rw [hS.out] at this
    exact this)
   have hLT:=za (fun W=>zaY (U|||al) (by have:=Nat.or_lt_two_pow (n:=6) (x:=U) (y:=al) (by omega) (by omega);unfold Sm;omega) W)
   have hor:bits .or .i64 (U:Int) (al:Int)=((U|||al:Nat):Int):=zcw (by unfold Sm;omega) (by unfold Sm;omega)
   have c8:∀ W,Ext w7 W→∀ j,W.cell? ⟨g8,j,none⟩=#[Value.slice A k c,.slice M k dm][j]?:=fun W hW=>(hC.h8.ext hW).cell
   have c12:∀ W,Ext w7 W→W.cell? ⟨g12,0,none⟩=some (.int .i64 (a.next.length:Nat)):=fun W hW=>by rw [(hC.h12.ext hW).cell];rfl
   have c13:∀ W,Ext w7 W→W.cell? ⟨g13,0,none⟩=some (.int .i64 (p.next.length:Nat)):=fun W hW=>by rw [(hC.h13.ext hW).cell];rfl
   have c4:∀ W,Ext w7 W→W.cell? ⟨w.heap.size,0,none⟩=some (.pointer (some ⟨ga,0,none⟩)):=fun W hW=>by rw [(hGC.h4.ext hW).cell];rfl
   have ca:∀ W,Ext w7 W→∀ j,W.cell? ⟨ga,j,none⟩=#[Value.int .i64 (al:Nat),.slice B m1 d1,.slice B' m1' d1'][j]?:=fun W hW=>by
    have:=(HGA5.out W ((hx6.trans hx7).trans hW)).cell
    rw [hale.out] at this
    exact this
   have hw1:IntKind.i64.wrap (sn:Int)=(sn:Int):=wrapN sn (by omega)
   have hw2:IntKind.i64.wrap (N:Int)=(N:Int):=wrapN N (by omega)
   have hww:=Ext.refl w7
   clear hC hGC h10 h11 h12 h13 hA hP
   go_upto_region 9 with fail
   refine uR (fun X=>Ext w7 X) [16] (zE.app [0,2,4,7,8,14,15] (zE.three 1 (zE.app [3,5] (zE.two 6 (zE.of [9,10,11,12,13,16,17,18,19,20]) 9 (zE.app [10,11,12] (zE.two 6 (zE.of [13,16,17,18,19,20]) 13 (zE.of [6,16,17,18,19,20]))))) 6 (zE.two 1 (zE.of [3,5,9,10,11,12,13,16,17,18,19,20]) 9 (zE.of [10,11,12,1,3,5,13,16,17,18,19,20])) 9 (zE.app [10,11,12] (zE.two 1 (zE.app [3,5] (zE.two 6 (zE.of [13,16,17,18,19,20]) 13 (zE.of [6,16,17,18,19,20]))) 6 (zE.of [1,3,5,13,16,17,18,19,20]))))) ?_
   refine uQ ?_
   have hx0:Ext w7 w7.drew:=hww.drew
   generalize w7.drew=wd at *
   refine uQ ?_
   refine zbG (fun K hK=>?_) (fun K hK=>?_) (fun K hK=>?_)
   ·go_simp
    refine (hSZ.out _ hx0).mono ?_
    rintro e w20 ⟨rfl,hx1⟩
    replace hx0:=hx0.trans hx1
    clear hx1
    refine hK.out _ _ hx0 ?_
    refine pT ?_
    refine uQ ?_
    refine zB (fun K hK=>?_) (fun K hK=>?_)
    ·go_simp
     have hI:=zdi (x:=0) (Blk.new w20 3 #[.int .i64 ((0:Nat):Int)])
     have hx1:=(Ext.refl w20).alloc (.cells #[.int .i64 ((0:Nat):Int)] 3)
     replace hx0:=hx0.trans hx1
     clear hx1
     refine hK.out _ _ hx0 ?_
     refine pT ?_
     generalize w20.alloc (.cells #[.int .i64 ((0:Nat):Int)] 3)=w21 at *
     generalize w20.heap.size=g1 at *
     exact yV07a10
    ·go_simp
     exact yV07a3
   ·go_simp
    have hI:=zdi (x:=0) (Blk.new wd 3 #[.int .i64 ((0:Nat):Int)])
    have hx1:=(Ext.refl wd).alloc (.cells #[.int .i64 ((0:Nat):Int)] 3)
    replace hx0:=hx0.trans hx1
    clear hx1
    refine hK.out _ _ hx0 ?_
    refine pT ?_
    generalize wd.alloc (.cells #[.int .i64 ((0:Nat):Int)] 3)=w20 at *
    generalize wd.heap.size=g1 at *
    refine zB (fun K hK=>?_) (fun K hK=>?_)
    ·go_simp
     refine (hSZ.out _ hx0).mono ?_
     rintro e w21 ⟨rfl,hx1⟩
     replace hx0:=hx0.trans hx1
     replace hI:=hI.ext hx1
     clear hx1
     refine hK.out _ _ hx0 ?_
     refine pT ?_
     refine uQ ?_
     exact yV07a10
    ·go_simp
     refine hK.out _ _ hx0 ?_
     refine pT ?_
     refine uQ ?_
     exact yV07a9
   ·go_simp
    refine hK.out _ _ hx0 ?_
    refine pT ?_
    refine uQ ?_
    refine zB (fun K hK=>?_) (fun K hK=>?_)
    ·go_simp
     refine (hSZ.out _ hx0).mono ?_
     rintro e w20 ⟨rfl,hx1⟩
     replace hx0:=hx0.trans hx1
     clear hx1
     exact yV07a3
    ·go_simp
     have hI:=zdi (x:=0) (Blk.new wd 3 #[.int .i64 ((0:Nat):Int)])
     have hx1:=(Ext.refl wd).alloc (.cells #[.int .i64 ((0:Nat):Int)] 3)
     replace hx0:=hx0.trans hx1
     clear hx1
     refine hK.out _ _ hx0 ?_
     refine pT ?_
     generalize wd.alloc (.cells #[.int .i64 ((0:Nat):Int)] 3)=w20 at *
     generalize wd.heap.size=g1 at *
     exact yV07a9
section
variable {lo hi n c:Nat} {A:Option Addr} {s:Sys} {lo1 hi1 m1 d1 m1' d1':Nat} {B B':Option Addr} {a:Aut} {lo2 hi2 m2 d2 m2' d2':Nat} {C C':Option Addr} {p:Aut} {w:World}
variable {k:Nat} {ss:List Sys}
theorem zbO (h:SLAt w lo hi A k ss)(hp:zaS w lo2 hi2 C m2 C' m2' p)(hT:Tab w) :
  Calls Tryd.prog 71 #[.slice A k c,.agg #[.int .i64 p.al,.slice C m2 d2,.slice C' m2' d2']] w fun e w'=>e=.returned (.tuple #[.string (brokW ss p),.bool (zda ss p)])∧Ext w w':=by
 have HS:=za (fun W (hW:Ext w W)=>h.ext hW)
 have HP:=za (fun W (hW:Ext w W)=>hp.ext hW)
 have HT:=za (fun W (hW:Ext w W)=>hT.ext hW)
 clear h hp hT
 have hw1:Ext w (w.alloc (.cells #[.int .i64 p.al,.slice C m2 d2,.slice C' m2' d2'] 30)):=(Ext.refl w).alloc _
 have b1:=Blk.new w 30 #[.int .i64 p.al,.slice C m2 d2,.slice C' m2' d2']
 cases hA:zH ss
 ·have hr:=za (show brokW ss p=ByteArray.empty∧zda ss p=false by unfold brokW zda zcj;rw [hA];exact⟨rfl,rfl⟩)
  have HA:=za hA
  clear hA
  go_enter Tryd.func71,Tryd.ntmps71
  go_upto_region 1 with fail
  generalize w.alloc (.cells #[.int .i64 p.al,.slice C m2 d2,.slice C' m2' d2'] 30)=w1 at *
  go_wp2_with (go_at_call 72;refine (zap (HS.out _ hw1)).mono ?_;rw [HA.out];rintro e w2 ⟨rfl,hx2⟩)
  go_ret2
  exact⟨by rw [hr.out.1,hr.out.2];rfl,hw1.trans hx2⟩
 ·cases hV:zx p
  ·have hr:=za (show brokW ss p=ByteArray.empty∧zda ss p=false by unfold brokW zda zcj;rw [hA,hV];exact⟨rfl,rfl⟩)
   have HV:=za hV
   have HA:=za hA
   clear hA hV
   go_enter Tryd.func71,Tryd.ntmps71
   go_upto_region 1 with fail
   generalize w.alloc (.cells #[.int .i64 p.al,.slice C m2 d2,.slice C' m2' d2'] 30)=w1 at *
   go_wp2_with (first
    |(go_at_call 72;refine (zap (HS.out _ hw1)).mono ?_;rw [HA.out];rintro e w2 ⟨rfl,hx2⟩;have hw2:=hw1.trans hx2;have c2:=(b1.ext hx2).cell)
    |(go_at_call 45;refine (zay _ _ _ _ _ _ _ _ _ _ (HP.out _ hw2)).mono ?_;rw [HV.out];rintro e w3 ⟨rfl,hx3⟩;have hw3:=hw2.trans hx3))
   go_ret2
   exact⟨by rw [hr.out.1,hr.out.2];rfl,hw3⟩
  ·have hr:=za (show brokW ss p=vioW ss free p∧zda ss p=vioB ss free p by unfold brokW zda zcj;rw [hA,hV];exact⟨rfl,by simp⟩)
   have HV:=za hV
   have HA:=za hA
   clear hA hV
   go_enter Tryd.func71,Tryd.ntmps71
   go_upto_region 1 with fail
   generalize w.alloc (.cells #[.int .i64 p.al,.slice C m2 d2,.slice C' m2' d2'] 30)=w1 at *
   go_wp2_with (first
    |(go_at_call 72;refine (zap (HS.out _ hw1)).mono ?_;rw [HA.out];rintro e w2 ⟨rfl,hx2⟩;have hw2:=hw1.trans hx2;have c2:=(b1.ext hx2).cell)
    |(go_at_call 45;refine (zay _ _ _ _ _ _ _ _ _ _ (HP.out _ hw2)).mono ?_;rw [HV.out];rintro e w3 ⟨rfl,hx3⟩;have hw3:=hw2.trans hx3;have c3:=(b1.ext (hx2.trans hx3)).cell)
    |(go_at_call 106;refine (zbH (c:=c) (d2:=d2) (d2':=d2') (HS.out _ hw3) HA.out (HT.out _ hw3) (HP.out _ hw3) HV.out).mono ?_;rintro e w4 hF;obtain⟨rfl,hx4⟩:=hF.first (zbQ _)))
   go_ret2
   exact⟨by rw [hr.out.1,hr.out.2];rfl,hw3.trans hx4⟩
theorem zdA (h:SLAt w lo hi A k ss)(hp:zaS w lo2 hi2 C m2 C' m2' p)(hT:Tab w) :
  Calls Tryd.prog 35 #[.slice A k c,.agg #[.int .i64 p.al,.slice C m2 d2,.slice C' m2' d2']] w fun e w'=>e=.returned (.bool (zci ss p))∧Ext w w':=by
 have HV:=za (fun W (hW:Ext w W)=>zbO (c:=c) (d2:=d2) (d2':=d2') (h.ext hW) (hp.ext hW) (hT.ext hW))
 have HS:=za (fun W (hW:Ext w W)=>h.ext hW)
 have HP:=za (fun W (hW:Ext w W)=>hp.ext hW)
 have hr:=za (show zci ss p=(zH ss&&zx p&&!zda ss p) from brokB_keeps ss p)
 clear h hp hT
 generalize zda ss p=ub at *
 generalize brokW ss p=uw at *
 have hw1:Ext w (w.alloc (.cells #[.int .i64 p.al,.slice C m2 d2,.slice C' m2' d2'] 30)):=(Ext.refl w).alloc _
 have b1:=Blk.new w 30 #[.int .i64 p.al,.slice C m2 d2,.slice C' m2' d2']
 cases hA:zH ss<;>cases hVv:zx p<;>cases ub
 all_goals
  have HA:=za (show zH ss=_ from hA)
  have HVv:=za hVv
  clear hA hVv
  go_enter Tryd.func35,Tryd.ntmps35
  go_upto_region 1 with fail
  generalize w.alloc (.cells #[.int .i64 p.al,.slice C m2 d2,.slice C' m2' d2'] 30)=w1 at *
  have c1:=b1.cell
  go_wp2_with (first
   |(go_at_call 71;refine (HV.out _ hw1).mono ?_;rintro e w2 ⟨rfl,hx2⟩;have hw2:=hw1.trans hx2)
   |(go_at_call 72;refine (zap (HS.out _ hw2)).mono ?_;rw [HA.out];rintro e w3 ⟨rfl,hx3⟩;have hw3:=hw2.trans hx3;have c3:=(b1.ext (hx2.trans hx3)).cell)
   |(go_at_call 45;refine (zay _ _ _ _ _ _ _ _ _ _ (HP.out _ hw3)).mono ?_;rw [HVv.out];rintro e w4 ⟨rfl,hx4⟩;have hw4:=hw3.trans hx4))
  go_ret
  exact⟨zf (by rw [hr.out,HA.out,HVv.out];rfl),by first|exact hw4|exact hw3⟩
theorem impl_KeepsProperty (h:zQ w lo hi A n s)(hp:zaS w lo2 hi2 C m2 C' m2' p)(hT:Tab w) :
  Calls Tryd.prog 14 #[.agg #[.int .i64 s.al,.int .i64 s.st,.slice A n c],.agg #[.int .i64 p.al,.slice C m2 d2,.slice C' m2' d2']] w fun e w'=>e=.returned (.bool (zci [s] p))∧Ext w w':=by
 have HS:=za (fun W (hW:Ext w W)=>h.ext hW)
 have HP:=za (fun W (hW:Ext w W)=>hp.ext hW)
 have HT:=za (fun W (hW:Ext w W)=>hT.ext hW)
 clear h hp hT
 have hw1:Ext w ((w.alloc (.cells #[.int .i64 s.al,.int .i64 s.st,.slice A n c] 39)).alloc (.cells #[.int .i64 p.al,.slice C m2 d2,.slice C' m2' d2'] 30)):=((Ext.refl w).alloc _).alloc _
 obtain⟨b1,b2⟩:=zv (Ext.refl ((w.alloc (.cells #[.int .i64 s.al,.int .i64 s.st,.slice A n c] 39)).alloc (.cells #[.int .i64 p.al,.slice C m2 d2,.slice C' m2' d2'] 30)))
 go_enter Tryd.func14,Tryd.ntmps14
 go_upto_region 1 with fail
 generalize (w.alloc (.cells #[.int .i64 s.al,.int .i64 s.st,.slice A n c] 39)).alloc (.cells #[.int .i64 p.al,.slice C m2 d2,.slice C' m2' d2'] 30)=w1 at *
 have c1:=b1.cell
 have e2:=Blk.new w1 39 #[.int .i64 s.al,.int .i64 s.st,.slice A n c]
 have f2:=(Ext.refl w1).alloc (.cells #[.int .i64 s.al,.int .i64 s.st,.slice A n c] 39)
 have c2:=(b2.ext f2).cell
 have hw2:=hw1.trans f2
 obtain⟨l1,h1,hsl⟩:=sl_one e2 (HS.out _ hw2)
 go_wp2_with (go_at_call 35;refine (zdA hsl (HP.out _ hw2) (HT.out _ hw2)).mono ?_;rintro e w3 ⟨rfl,hx3⟩)
 go_ret
 exact⟨zf rfl,hw2.trans hx3⟩
end
def three (ss:List Sys) (p:Aut):Bool:=decide (ss.length=3)&&(zH ss&&zx p)
def zcN (p:Aut) (q:Nat) (ls:List Nat):Nat:=ls.foldl (aGo p) q
theorem runA_snoc (p:Aut) (q:Nat) (ls:List Nat) (l:Nat):zcN p q (ls++[l])=aGo p (zcN p q ls) l:=by simp [zcN]
theorem runA_ltF {N:Nat} {p:Aut}(hv:Fit N p) {ls:List Nat}(h:∀ l∈ls,l<6) {q:Nat}(hq:q<p.next.length):zcN p q ls<p.next.length:=by
 induction ls generalizing q with
 |nil=>exact hq
 |cons l r ih=>exact ih (fun x hx=>h x (List.mem_cons_of_mem _ hx)) (aGo_ltF hv hq (h l List.mem_cons_self))
theorem runA_lt {p:Aut}(hv:zx p=true) {ls:List Nat}(h:∀ l∈ls,l<6) {q:Nat}(hq:q<p.next.length):zcN p q ls<p.next.length:=runA_ltF (fit_of hv) h hq
theorem pnx_mod (ms:List Mem) (x l:Nat):pnx ms x l=pnx ms (x % zu ms) l:=by
 induction ms generalizing x with
 |nil=>rfl
 |cons m r ih =>
  rw [zcB]
  unfold pnx
  have e1:x % (m.1*zu r) / zu r % m.1=x / zu r % m.1:=by
   rw [Nat.mul_comm,Nat.mod_mul_right_div_self,Nat.mod_mod]
  have e2:pnx r (x % (m.1*zu r)) l=pnx r x l:=by
   rw [ih (x % (m.1*zu r)),Nat.mod_mul_left_mod,← ih x]
  rw [e1,e2]
theorem goes_lt {ms:List Mem}(hm:∀ m∈ms,zca m) {v:List Nat}(hv:∀ l∈v,l<6) {x:Nat}(h:zbt (pnx ms) [0] v x):x<zu ms:=by
 rcases zaa v with rfl|⟨u,l,rfl⟩
 ·have:=h.inv_nil
  have h1:=zdk hm
  simp at this
  omega
 ·obtain⟨n,_,hx⟩:=h.inv
  exact pnx_lt hm (hv l (by simp)) x hx
theorem mem_lt {m:Mem}(hm:zca m) {v:List Nat}(hv:∀ l∈v,l<6) {q:Nat}(h:zbt m.2 [0] v q):q<m.1:=by
 have key:∀ n (v:List Nat),v.length=n→(∀ l∈v,l<6)→∀ q,zbt m.2 [0] v q→q<m.1:=by
  intro n
  induction n with
  |zero =>
   intro v hl _ q h
   obtain rfl:=List.eq_nil_of_length_eq_zero hl
   have:=h.inv_nil
   have:=hm.1
   simp at *
   omega
  |succ n ih =>
   intro v hl hv q h
   rcases zaa v with rfl|⟨u,l,rfl⟩
   ·simp at hl
   ·obtain⟨q',h1,h2⟩:=h.inv
    exact hm.2 q' l (ih u (by simpa using hl) (fun k hk=>hv k (by simp [hk])) q' h1) (hv l (by simp)) q h2
 exact key _ v rfl hv q h
theorem zcg {m:Mem} {r:List Mem}(hm:zca m)(hr:∀ m∈r,zca m):∀ (n:Nat) (v:List Nat),v.length=n→(∀ l∈v,l<6)→∀ x,zbt (pnx (m :: r)) [0] v x↔∃ q y,x=q*zu r+y∧zbt m.2 [0] v q∧zbt (pnx r) [0] v y:=by
 intro n
 induction n with
 |zero =>
  intro v hl _ x
  obtain rfl:=List.eq_nil_of_length_eq_zero hl
  constructor
  ·intro h
   have:=h.inv_nil
   simp at this
   subst this
   exact⟨0,0,by simp,.nil (by simp),.nil (by simp)⟩
  ·rintro ⟨q,y,rfl,h1,h2⟩
   have h1:=h1.inv_nil
   have h2:=h2.inv_nil
   simp at h1 h2
   subst h1;subst h2
   exact .nil (by simp)
 |succ n ih =>
  intro v hl hv x
  rcases zaa v with rfl|⟨u,l,rfl⟩
  ·simp at hl
  have hu:∀ k∈u,k<6:=fun k hk=>hv k (by simp [hk])
  have hl6:l<6:=hv l (by simp)
  have ih:=ih u (by simpa using hl) hu
  have hP:=zdk hr
  have step:∀ q y,zbt m.2 [0] u q→zbt (pnx r) [0] u y→pnx (m :: r) (q*zu r+y) l=(m.2 q l).flatMap fun q'=>(pnx r y l).map fun y'=>q'*zu r+y':=by
   intro q y h1 h2
   have hq:=mem_lt hm hu h1
   have hy:=goes_lt hr hu h2
   show (m.2 ((q*zu r+y) / zu r % m.1) l).flatMap (fun q'=>(pnx r (q*zu r+y) l).map fun y'=>q'*zu r+y')=_
   have e1:(q*zu r+y) / zu r % m.1=q:=by
    rw [Nat.mul_comm,Nat.mul_add_div (by omega),Nat.div_eq_of_lt hy,Nat.add_zero,Nat.mod_eq_of_lt hq]
   have e2:pnx r (q*zu r+y) l=pnx r y l:=by
    rw [pnx_mod r (q*zu r+y),Nat.mul_comm,Nat.mul_add_mod,← pnx_mod]
   rw [e1,e2]
  constructor
  ·intro h
   obtain⟨n',h1,h2⟩:=h.inv
   obtain⟨q,y,rfl,h3,h4⟩:=(ih n').1 h1
   rw [step q y h3 h4] at h2
   simp only [List.mem_flatMap,List.mem_map] at h2
   obtain⟨q',hq',y',hy',rfl⟩:=h2
   exact⟨q',y',rfl,.snoc h3 hq',.snoc h4 hy'⟩
  ·rintro ⟨q',y',rfl,h1,h2⟩
   obtain⟨q,h3,h4⟩:=h1.inv
   obtain⟨y,h5,h6⟩:=h2.inv
   refine .snoc ((ih (q*zu r+y)).2 ⟨q,y,rfl,h3,h5⟩) ?_
   rw [step q y h3 h5]
   simp only [List.mem_flatMap,List.mem_map]
   exact⟨q',h4,y',h6,rfl⟩
def Runs (s:Sys) (v:List Nat):Prop:=∃ q,zbt (cho s) [0] v q
theorem zcS (a:Aut) (v:List Nat) (q:Nat):zbt (zbg a).2 [0] v q↔q=zcN a 0 v:=by
 have key:∀ n (v:List Nat),v.length=n→∀ q,zbt (zbg a).2 [0] v q↔q=zcN a 0 v:=by
  intro n
  induction n with
  |zero =>
   intro v hl q
   obtain rfl:=List.eq_nil_of_length_eq_zero hl
   constructor
   ·intro h;have:=h.inv_nil;simp at this;subst this;rfl
   ·rintro rfl;exact .nil (by simp [zcN])
  |succ n ih =>
   intro v hl q
   rcases zaa v with rfl|⟨u,l,rfl⟩
   ·simp at hl
   rw [runA_snoc]
   have ih:=ih u (by simpa using hl)
   constructor
   ·intro h
    obtain⟨q',h1,h2⟩:=h.inv
    rw [(ih q').1 h1] at h2
    simpa [zbg] using h2
   ·rintro rfl
    exact .snoc ((ih _).2 rfl) (by simp [zbg])
 exact key _ v rfl q
theorem goes_nil (v:List Nat) (y:Nat):zbt (pnx []) [0] v y↔y=0:=by
 have key:∀ n (v:List Nat),v.length=n→∀ y,zbt (pnx []) [0] v y↔y=0:=by
  intro n
  induction n with
  |zero =>
   intro v hl y
   obtain rfl:=List.eq_nil_of_length_eq_zero hl
   exact⟨fun h=>by simpa using h.inv_nil,fun h=>.nil (by simp [h])⟩
  |succ n ih =>
   intro v hl y
   rcases zaa v with rfl|⟨u,l,rfl⟩
   ·simp at hl
   have ih:=ih u (by simpa using hl)
   constructor
   ·intro h
    obtain⟨q',h1,h2⟩:=h.inv
    simpa [pnx] using h2
   ·rintro rfl
    exact .snoc ((ih 0).2 rfl) (by simp [pnx])
 exact key _ v rfl y
theorem goes_two {a p:Aut}(ha:zx a=true)(hp:zx p=true) {v:List Nat}(hv:∀ l∈v,l<6) (y:Nat):zbt (pnx [zbg a,zbg p]) [0] v y↔y=zcN a 0 v*p.next.length+zcN p 0 v:=by
 have hpo:∀ m∈[zbg p],zca m:=by simp;exact zbi hp
 have hP:zu [zbg p]=p.next.length:=by simp [zu,zaM,zbg]
 have h1:∀ z,zbt (pnx [zbg p]) [0] v z↔z=zcN p 0 v:=by
  intro z
  rw [zcg (zbi hp) (by simp) _ v rfl hv]
  constructor
  ·rintro ⟨q,y,rfl,h1,h2⟩
   rw [(goes_nil v y).1 h2,(zcS p v q).1 h1]
   simp [zu,zaM]
  ·rintro rfl
   exact⟨zcN p 0 v,0,by simp [zu,zaM],(zcS p v _).2 rfl,(goes_nil v 0).2 rfl⟩
 rw [zcg (zbi ha) hpo _ v rfl hv,hP]
 constructor
 ·rintro ⟨q,y,rfl,h2,h3⟩
  rw [(zcS a v q).1 h2,(h1 y).1 h3]
 ·rintro rfl
  exact⟨_,_,rfl,(zcS a v _).2 rfl,(h1 _).2 rfl⟩
theorem goes_parts {T:List Mem}(hT:∀ m∈T,zca m) {v:List Nat}(hv:∀ l∈v,l<6) (g:Nat→Prop):∀ {ss:List Sys},(∀ s∈ss,zca (zcl s))→((∃ x,zbt (pnx (ss.map zcl++T)) [0] v x∧g (x % zu T))↔(∀ s∈ss,Runs s v)∧∃ y,zbt (pnx T) [0] v y∧g y):=by
 intro ss
 induction ss with
 |nil =>
  intro _
  simp only [List.map_nil,List.nil_append,List.not_mem_nil,false_implies,implies_true,true_and]
  constructor
  ·rintro ⟨x,h,hg⟩
   rw [Nat.mod_eq_of_lt (goes_lt hT hv h)] at hg
   exact⟨x,h,hg⟩
  ·rintro ⟨x,h,hg⟩
   exact⟨x,h,by rwa [Nat.mod_eq_of_lt (goes_lt hT hv h)]⟩
 |cons s r ih =>
  intro hs
  have hs0:=hs s List.mem_cons_self
  have hsr:=fun t ht=>hs t (List.mem_cons_of_mem _ ht)
  have ih:=ih hsr
  have hr:∀ m∈r.map zcl++T,zca m:=by
   intro m hm
   rcases List.mem_append.1 hm with h|h
   ·obtain⟨t,ht,rfl⟩:=List.mem_map.1 h
    exact hsr t ht
   ·exact hT m h
  have hmod:∀ q y,(q*zu (r.map zcl++T)+y) % zu T=y % zu T:=by
   intro q y
   rw [zaJ,← Nat.mul_assoc,Nat.mul_comm,Nat.mul_add_mod]
  rw [List.map_cons,List.cons_append]
  constructor
  ·rintro ⟨x,h,hg⟩
   obtain⟨q,y,rfl,h1,h2⟩:=(zcg hs0 hr _ v rfl hv x).1 h
   rw [hmod] at hg
   obtain⟨h3,h4⟩:=ih.1 ⟨y,h2,hg⟩
   refine⟨fun t ht=>?_,h4⟩
   rcases List.mem_cons.1 ht with rfl|ht
   ·exact⟨q,h1⟩
   ·exact h3 t ht
  ·rintro ⟨h1,h2⟩
   obtain⟨y,h3,h4⟩:=ih.2 ⟨fun t ht=>h1 t (List.mem_cons_of_mem _ ht),h2⟩
   obtain⟨q,hq⟩:=h1 s List.mem_cons_self
   exact⟨q*zu (r.map zcl++T)+y,(zcg hs0 hr _ v rfl hv _).2 ⟨q,y,rfl,hq,h3⟩,by rwa [hmod]⟩
def Breaks (ss:List Sys) (a p:Aut) (v:List Nat):Prop:=(∀ s∈ss,Runs s v)∧accB a (zcN a 0 v)=true∧accB p (zcN p 0 v)=false
theorem vio_iff {ss:List Sys} {a p:Aut}(hss:∀ s∈ss,zk s=true)(ha:zx a=true)(hp:zx p=true) :
  vioB ss a p=true↔∃ v,(∀ l∈v,l∈letters (zaq ss|||a.al.toNat) 6)∧Breaks ss a p v:=by
 have hsm:∀ s∈ss,zca (zcl s):=fun s hs=>zei (sml_of (hss s hs))
 have hT:∀ m∈[zbg a,zbg p],zca m:=by simp;exact⟨zbi ha,zbi hp⟩
 have hP:zu [zbg a,zbg p]=a.next.length*p.next.length:=by simp [zu,zaM,zbg]
 have a1:=(zy ha).2.1
 have p1:=(zy hp).2.1
 have hgoal:∀ x,zbX a p x=zbX a p (x % zu [zbg a,zbg p]):=by
  intro x
  unfold zbX
  rw [hP,Nat.mod_mul_left_mod,Nat.mul_comm,Nat.mod_mul_right_div_self,Nat.mod_mod]
 have key:∀ v,(∀ l∈v,l<6)→((∃ x,zbt (zbB ss a p) [0] v x∧zbX a p x=true)↔Breaks ss a p v):=by
  intro v hv
  rw [zdW]
  have h1:=goes_parts hT hv (fun y=>zbX a p y=true) hsm
  have h2:(∃ x,zbt (pnx (mems ss [a,p])) [0] v x∧zbX a p x=true)↔(∃ x,zbt (pnx (ss.map zcl++[zbg a,zbg p])) [0] v x∧zbX a p (x % zu [zbg a,zbg p])=true):=by
   constructor
   ·rintro ⟨x,h,hg⟩;exact⟨x,h,by rw [← hgoal];exact hg⟩
   ·rintro ⟨x,h,hg⟩;exact⟨x,h,by rw [hgoal];exact hg⟩
  rw [h2,h1]
  unfold Breaks
  refine and_congr_right fun _=>?_
  have hra:=runA_lt ha hv (q:=0) (by omega)
  have hrp:=runA_lt hp hv (q:=0) (by omega)
  have e1:(zcN a 0 v*p.next.length+zcN p 0 v) / p.next.length % a.next.length=zcN a 0 v:=by
   rw [Nat.mul_comm,Nat.mul_add_div (by omega),Nat.div_eq_of_lt hrp,Nat.add_zero,Nat.mod_eq_of_lt hra]
  have e2:(zcN a 0 v*p.next.length+zcN p 0 v) % p.next.length=zcN p 0 v:=by
   rw [Nat.mul_comm,Nat.mul_add_mod,Nat.mod_eq_of_lt hrp]
  constructor
  ·rintro ⟨y,hy,hg⟩
   rw [(goes_two ha hp hv y).1 hy] at hg
   unfold zbX at hg
   rw [e1,e2] at hg
   simpa using hg
  ·intro hg
   refine⟨_,(goes_two ha hp hv _).2 rfl,?_⟩
   unfold zbX
   rw [e1,e2]
   simpa using hg
 unfold vioB lostB
 rw [Bool.not_eq_true',@decide_eq_false_iff_not _ (Classical.propDecidable _)]
 constructor
 ·intro hn
  apply Classical.byContradiction
  intro hno
  refine hn fun v hv x hx=>?_
  cases hb:zbX a p x
  ·rfl
  ·exact absurd ⟨v,hv,(key v (fun l hl=>zbQ _ l (hv l hl))).1 ⟨x,hx,hb⟩⟩ hno
 ·rintro ⟨v,hv,hB⟩ hl
  obtain⟨x,hx,hg⟩:=(key v (fun l hl=>zbQ _ l (hv l hl))).2 hB
  have:=hl v hv x hx
  rw [hg] at this
  cases this
def Over (A:Nat) (v:List Nat):Prop:=∀ l∈v,l<6∧A.testBit l=true
theorem over_iff {A:Nat} {v:List Nat}:(∀ l∈v,l∈letters A 6)↔Over A v:=by unfold Over;simp only [zac]
theorem runA_free (q:Nat) (v:List Nat):zcN free q v=q:=by
 induction v generalizing q with
 |nil=>rfl
 |cons l r ih =>
  show zcN free (aGo free q l) r=q
  rw [show aGo free q l=q by simp [aGo,free],ih]
theorem zdN {ss:List Sys} {p:Aut}:zci ss p=true↔(zH ss=true∧zx p=true)∧∀ v,Over (zaq ss) v→(∀ s∈ss,Runs s v)→accB p (zcN p 0 v)=true:=by
 unfold zci zcj
 simp only [Bool.and_eq_true,Bool.not_eq_true']
 have hf:∀ v,accB free (zcN free 0 v)=true:=fun v=>by rw [runA_free];rfl
 have hU:zaq ss|||free.al.toNat=zaq ss:=by simp [free]
 constructor
 ·rintro ⟨⟨h1,h2⟩,h4⟩
  refine⟨⟨h1,h2⟩,fun v hv hr=>?_⟩
  cases hb:accB p (zcN p 0 v)
  ·have:=(vio_iff (a:=free) (zdj h1).2 zcy h2).2 ⟨v,over_iff.2 (by rw [hU];exact hv),hr,hf v,hb⟩
   rw [h4] at this;cases this
  ·rfl
 ·rintro ⟨⟨h1,h2⟩,h4⟩
  refine⟨⟨h1,h2⟩,?_⟩
  rw [Bool.eq_false_iff]
  intro hv
  obtain⟨v,hv,hr,ha,hb⟩:=(vio_iff (a:=free) (zdj h1).2 zcy h2).1 hv
  have:=h4 v (by rw [hU] at hv;exact over_iff.1 hv) hr
  rw [hb] at this;cases this
theorem parts_mk {ss:List Sys}(h1:1≤ss.length)(h3:ss.length≤3)(hv:∀ s∈ss,zk s=true):zH ss=true:=by
 unfold zH
 simp only [Bool.and_eq_true,decide_eq_true_eq,List.all_eq_true]
 exact⟨h1,h3,hv⟩
theorem sim_cho {both:Bool} {s t:Sys} {p q:Nat}(hf:Few p s.edges)(hg:Few q t.edges)(hq:q≤16)(he:s.al=t.al) {R:List Nat}(hR:Gfp both s.edges t.edges p q R)(h0:rel R 0 0) {v:List Nat} {i:Nat}(hx:zbt (cho s) [0] v i):∃ j,rel R i j∧zbt (cho t) [0] v j:=by
 induction hx with
 |nil h =>
  obtain rfl:=List.mem_singleton.1 h
  exact⟨0,h0,.nil (by simp)⟩
 |@snoc w l n x _ h ih =>
  obtain⟨j,hj,hG⟩:=ih
  unfold cho at h
  by_cases hl:s.al.toNat.testBit l=true
  ·rw [if_pos hl,zac] at h
   obtain⟨k',h3,h4⟩:=(hR.post _ _ hj).1 l x ((zbZ hf n l x).2 h.2)
   refine⟨k',h4,.snoc hG ?_⟩
   unfold cho
   rw [if_pos (by rw [← he];exact hl),zac]
   refine⟨?_,(zbZ hg j l k').1 h3⟩
   obtain⟨e,hem,_,_,h5⟩:=h3
   have:=hg e hem
   omega
  ·rw [if_neg hl] at h
   obtain rfl:=List.mem_singleton.1 h
   refine⟨j,hj,.snoc hG ?_⟩
   unfold cho
   rw [if_neg (by rw [← he];exact hl)]
   simp
theorem sim_runs {both:Bool} {s t:Sys}(h:simB both s t=true) {v:List Nat}(hr:Runs s v):Runs t v:=by
 unfold simB at h
 rw [Bool.and_eq_true] at h
 obtain⟨v1,v2,he⟩:=zbC h.1
 obtain⟨p,hp,hp1,hp2,hf⟩:=zan v1
 obtain⟨q,hq,hq1,hq2,hg⟩:=zan v2
 have hR:=gfp_spec both s t
 rw [hp,hq] at hR
 obtain⟨i,hi⟩:=hr
 obtain⟨j,-,hj⟩:=sim_cho hf hg hq2 he hR (zbn h.2) hi
 exact⟨j,hj⟩
theorem sim_keeps {both:Bool} {s t:Sys} {p:Aut}(h:simB both s t=true)(hk:zci [t] p=true):zci [s] p=true:=by
 have hs:zcm s t=true:=by unfold simB at h;rw [Bool.and_eq_true] at h;exact h.1
 obtain⟨v1,v2,he⟩:=zbC hs
 obtain⟨⟨h1,h2⟩,h3⟩:=zdN.1 hk
 refine zdN.2 ⟨⟨parts_mk (by simp) (by simp) (by simpa using v1),h2⟩,fun v hv hr=>h3 v ?_ fun x hx=>?_⟩
 ·simpa [zaq,he] using hv
 ·obtain rfl:x=t:=by simpa using hx
  exact sim_runs h (hr s (by simp))
end Go.Proofs.YtfcjhpodichpjaaDoor
namespace Go.Proofs.YtfcjhpodichpjaaDoor
open Go Go.ChangeShapes Go.WideShapes Go.ChangeAt Go.RowKit Go.Deep
def BytesAt (w:World) (A:Option Addr) (n c:Nat):Prop:=Bytes w A n∧n≤9223372036854775807∧n≤c∧c≤9223372036854775807
theorem arg_bytes {H:Type} {enc:TypeId × Value→H} {w:World} {spare:Nat→Bool} {held:Bool} {r:Reach} {b0:Nat} {v:Value} {d:DataW H} {p:List MemPlace}(hv:Value.okWide Tryd.prog w r b0 36 v)(h:DataW.Trod enc Tryd.prog w 0 spare held 36 v d p) :
  ∃ (A:Option Addr) (n c:Nat),v=.slice A n c∧BytesAt w A n c:=by
 obtain⟨a,l,k,rfl⟩:=okWide_slice Tryd.underlying36 hv
 obtain⟨fuel,hf⟩:=h
 rcases open_slice1 Tryd.underlying36 (by kernel_rfl) hf with ⟨h0,_⟩|⟨ad,len,cap,m,n,V,D,Pl,h0,hb,hl,hm,hmm,_,hx⟩
 ·simp [Value.cells] at h0
  obtain⟨rfl,rfl,rfl⟩:=h0
  exact⟨_,_,_,rfl,fun h=>absurd h (by omega),by omega,Nat.le_refl _,by omega⟩
 ·simp [Value.cells] at h0
  obtain⟨rfl,rfl,rfl⟩:=h0
  unfold maxLen at hm
  have hlm:l≤m:=by rw [hmm];split<;>omega
  refine⟨_,_,_,rfl,fun hn=>?_,by omega,hl,by omega⟩
  have h1:=(hx 0 (by omega)).1
  have hs:=zaZ h1
  have hlt:=World.block_lt_of_cell? w _ h1
  rw [zdK] at hlt
  refine⟨ad.block,ad.off,by rw [← hs],hlt,fun j hj=>?_⟩
  obtain⟨h2,h3⟩:=hx j (by omega)
  obtain⟨b,hb1,_,hb3⟩:=DataW.trod_int Tryd.underlying5 h3
  have hV:V j=.int .u8 b:=by simpa using hb1
  rw [hV,hs,zP] at h2
  have hw:0≤b∧b<256:=by
   simp only [Lit.wf,Bool.and_eq_true,decide_eq_true_eq] at hb3
   have h4:IntKind.u8.min=0:=rfl
   have h5:IntKind.u8.max=255:=rfl
   omega
  refine⟨b.toNat,by omega,?_⟩
  rw [h2]
  have:((b.toNat:Nat):Int)=b:=by omega
  rw [this]
end Go.Proofs.YtfcjhpodichpjaaDoor
