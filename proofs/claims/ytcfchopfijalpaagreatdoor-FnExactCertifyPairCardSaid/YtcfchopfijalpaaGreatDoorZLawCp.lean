/- The law FnEx -/
import Derived.Test.YtcfchopfijalpaaGreatDoorC14
import Derived.Test.YtcfchopfijalpaaGreatDoorC12
import Derived.Test.YtcfchopfijalpaaGreatDoorC01
set_option maxHeartbeats 1000000
set_option maxRecDepth 100000
namespace Go.Proofs.YtcfchopfijalpaaGreatDoor
open Go Go.RowKit
set_option maxHeartbeats 16000000
theorem blk_own {w:World} {base n c:Nat} {A:Option Addr} {l:List Edg}(h:OwnE w base A n c l) {b:Nat}(hb:blk A b):base≤b∧b<w.heap.size:=by
 obtain⟨a,rfl,rfl⟩:=hb
 exact h.2.lt a.block rfl
theorem cnt_size (a:Aut):cntA a≤a.size:=by unfold cntA Aut.size;omega
theorem cnt_X (cd:Int) (a:Aut) (s:ByteArray):cntA (zgY cd a s)≤a.size:=by
 unfold zgY
 split
 ·exact cnt_size a
 ·simp [cntA,aut0,tot]
section
variable {lo hi n c:Nat} {A:Option Addr} {s:Sys} {lo1 hi1 m1 d1 m1' d1':Nat} {B B':Option Addr} {p:Aut} {lo2 hi2 k c2:Nat} {C:Option Addr} {t:Sys} {w:World}
theorem law_ExactCertifyPair (h:zM w lo hi A n s)(ht:zM w lo2 hi2 C k t)(hp:zC w lo1 hi1 B m1 B' m1' p)(hT:Tab w) :
  Calls Tryz.prog 3 #[.agg #[.int .i64 s.al,.int .i64 s.st,.slice A n c],.agg #[.int .i64 t.al,.int .i64 t.st,.slice C k c2],.agg #[.int .i64 p.al,.slice B m1 d1,.slice B' m1' d1']] w fun e w'=>e=.returned (.bool true)∧Ext w w':=by
 have HS:=za (fun W (hW:Ext w W)=>h.ext hW)
 have HS':=za (fun W (hW:Ext w W)=>ht.ext hW)
 have HP:=za (fun W (hW:Ext w W)=>hp.ext hW)
 have HT:=za (fun W (hW:Ext w W)=>hT.ext hW)
 have hn:=h.2.len
 have hk:=ht.2.len
 clear h ht hp hT
 have hw1:Ext w (((w.alloc (.cells #[.int .i64 s.al,.int .i64 s.st,.slice A n c] 24)).alloc (.cells #[.int .i64 t.al,.int .i64 t.st,.slice C k c2] 24)).alloc (.cells #[.int .i64 p.al,.slice B m1 d1,.slice B' m1' d1'] 28)):=(((Ext.refl w).alloc _).alloc _).alloc _
 obtain⟨b1,b2,b3⟩:=zK (Ext.refl (((w.alloc (.cells #[.int .i64 s.al,.int .i64 s.st,.slice A n c] 24)).alloc (.cells #[.int .i64 t.al,.int .i64 t.st,.slice C k c2] 24)).alloc (.cells #[.int .i64 p.al,.slice B m1 d1,.slice B' m1' d1'] 28)))
 have h0:(0:Int)≤1048576:=by omega
 have h1:(1048576:Int)≤1048576:=by omega
 by_cases r1:leftOf 1048576 n<0
 ·go_enter Tryz.func3,Tryz.ntmps3
  go_upto_region 1 with fail
  generalize ((w.alloc (.cells #[.int .i64 s.al,.int .i64 s.st,.slice A n c] 24)).alloc (.cells #[.int .i64 t.al,.int .i64 t.st,.slice C k c2] 24)).alloc (.cells #[.int .i64 p.al,.slice B m1 d1,.slice B' m1' d1'] 28)=w1 at *
  have c1:=b1.cells
  have c2':=b2.cells
  have c3:=b3.cells
  have hx0:=Ext.refl w1
  go_wp2_with (first
   |(go_at_call 15;with_reducible refine (szSystem_any (A:=A) (n:=n) (c:=c) (al:=s.al) (st:=s.st) (left:=1048576) hn h0 h1).mono ?_;rintro e w2 ⟨rfl,hx2⟩;have hw2:=hw1.trans hx2)
   |(go_at_call 15;with_reducible refine (szSystem_any (A:=C) (n:=k) (c:=c2) (al:=t.al) (st:=t.st) (left:=leftOf 1048576 n) hk p1 q1).mono ?_;rintro e w3 ⟨rfl,hx3⟩;have hx13:=hx2.trans hx3;have hw3:=hw1.trans hx13)
   |(go_at_call 16;with_reducible refine (szAutomaton_any _ _ _ _ _ _ _ _ _ _ _ (HP.out _ hw3) p2 q2).mono ?_;rintro e w4 ⟨rfl,hx4⟩;have hx14:=hx13.trans hx4;have hw4:=hw1.trans hx14))
  go_ret
  exact⟨rfl,hw2⟩
 have p1:0≤leftOf 1048576 n:=by omega
 have q1:=leftOf_le (1048576) (n) h1
 have s1:=leftOf_room r1 h1
 by_cases r2:leftOf (leftOf 1048576 n) k<0
 ·go_enter Tryz.func3,Tryz.ntmps3
  go_upto_region 1 with fail
  generalize ((w.alloc (.cells #[.int .i64 s.al,.int .i64 s.st,.slice A n c] 24)).alloc (.cells #[.int .i64 t.al,.int .i64 t.st,.slice C k c2] 24)).alloc (.cells #[.int .i64 p.al,.slice B m1 d1,.slice B' m1' d1'] 28)=w1 at *
  have c1:=b1.cells
  have c2':=b2.cells
  have c3:=b3.cells
  have hx0:=Ext.refl w1
  go_wp2_with (first
   |(go_at_call 15;with_reducible refine (szSystem_any (A:=A) (n:=n) (c:=c) (al:=s.al) (st:=s.st) (left:=1048576) hn h0 h1).mono ?_;rintro e w2 ⟨rfl,hx2⟩;have hw2:=hw1.trans hx2)
   |(go_at_call 15;with_reducible refine (szSystem_any (A:=C) (n:=k) (c:=c2) (al:=t.al) (st:=t.st) (left:=leftOf 1048576 n) hk p1 q1).mono ?_;rintro e w3 ⟨rfl,hx3⟩;have hx13:=hx2.trans hx3;have hw3:=hw1.trans hx13)
   |(go_at_call 16;with_reducible refine (szAutomaton_any _ _ _ _ _ _ _ _ _ _ _ (HP.out _ hw3) p2 q2).mono ?_;rintro e w4 ⟨rfl,hx4⟩;have hx14:=hx13.trans hx4;have hw4:=hw1.trans hx14))
  go_ret
  exact⟨rfl,hw3⟩
 have p2:0≤leftOf (leftOf 1048576 n) k:=by omega
 have q2:=leftOf_le (leftOf 1048576 n) (k) q1
 have s2:=leftOf_room r2 q1
 by_cases r3:leftOf (leftOf (leftOf 1048576 n) k) p.size<0
 ·go_enter Tryz.func3,Tryz.ntmps3
  go_upto_region 1 with fail
  generalize ((w.alloc (.cells #[.int .i64 s.al,.int .i64 s.st,.slice A n c] 24)).alloc (.cells #[.int .i64 t.al,.int .i64 t.st,.slice C k c2] 24)).alloc (.cells #[.int .i64 p.al,.slice B m1 d1,.slice B' m1' d1'] 28)=w1 at *
  have c1:=b1.cells
  have c2':=b2.cells
  have c3:=b3.cells
  have hx0:=Ext.refl w1
  go_wp2_with (first
   |(go_at_call 15;with_reducible refine (szSystem_any (A:=A) (n:=n) (c:=c) (al:=s.al) (st:=s.st) (left:=1048576) hn h0 h1).mono ?_;rintro e w2 ⟨rfl,hx2⟩;have hw2:=hw1.trans hx2)
   |(go_at_call 15;with_reducible refine (szSystem_any (A:=C) (n:=k) (c:=c2) (al:=t.al) (st:=t.st) (left:=leftOf 1048576 n) hk p1 q1).mono ?_;rintro e w3 ⟨rfl,hx3⟩;have hx13:=hx2.trans hx3;have hw3:=hw1.trans hx13)
   |(go_at_call 16;with_reducible refine (szAutomaton_any _ _ _ _ _ _ _ _ _ _ _ (HP.out _ hw3) p2 q2).mono ?_;rintro e w4 ⟨rfl,hx4⟩;have hx14:=hx13.trans hx4;have hw4:=hw1.trans hx14))
  go_ret
  exact⟨rfl,hw4⟩
 have p3:0≤leftOf (leftOf (leftOf 1048576 n) k) p.size:=by omega
 have q3:=leftOf_le (leftOf (leftOf 1048576 n) k) (p.size) q2
 have s3:=leftOf_room r3 q2
 have z1:=s1
 have z2:=s2
 have z3:p.size≤1048576:=s3
 clear s1 s2 s3
 have hsl:=za (show s.edges.length≤1048576 by have:=(HS.out _ (Ext.refl w)).1;omega)
 have htl:=za (show t.edges.length≤1048576 by have:=(HS'.out _ (Ext.refl w)).1;omega)
 have HR:=za (fun W (A:Option Addr) (n c lo hi:Nat) (C:Option Addr) (k c2 lo2 hi2:Nat) (B:Option Addr) (m d:Nat) (B':Option Addr) (m' d' lo1 hi1:Nat) (g1:zM W lo hi A n s) (g2:zM W lo2 hi2 C k t) (g3:zC W lo1 hi1 B m B' m' p) (hhi:hi≤W.heap.size)=>spec_CertifyPairB (c:=c) (c2:=c2) (d:=d) (d':=d') g1 g3 g2 hhi)
 have HI:=za (fun W (A:Option Addr) (n c lo hi:Nat) (C:Option Addr) (k c2 lo2 hi2:Nat) (B:Option Addr) (m d:Nat) (B':Option Addr) (m' d' lo1 hi1:Nat) (g1:zM W lo hi A n s) (g2:zM W lo2 hi2 C k t) (g3:zC W lo1 hi1 B m B' m' p) (hW:Ext w W)=>impl_CertifyPair (c:=c) (c2:=c2) (d:=d) (d':=d') g1 g3 g2 (HT.out _ hW))
 have hqc:=Nat.le_trans (cnt_X (vpT s t p).code (vpT s t p).asm (vpT s t p).tr) (zgf s t p).1
 have hbb:(okC (vpT s t p).code (vpT s t p).asm (vpT s t p).tr != okC (vpT s t p).code (vpT s t p).asm (vpT s t p).tr)=false:=by cases okC (vpT s t p).code (vpT s t p).asm (vpT s t p).tr<;>rfl
 generalize hdX (vpT s t p).code (vpT s t p).asm (vpT s t p).tr=hX at *
 generalize zgY (vpT s t p).code (vpT s t p).asm (vpT s t p).tr=q at *
 generalize zgZ (vpT s t p).code (vpT s t p).asm (vpT s t p).tr=sX at *
 generalize okC (vpT s t p).code (vpT s t p).asm (vpT s t p).tr=vb at *
 go_enter Tryz.func3,Tryz.ntmps3
 go_upto_region 1 with fail
 generalize ((w.alloc (.cells #[.int .i64 s.al,.int .i64 s.st,.slice A n c] 24)).alloc (.cells #[.int .i64 t.al,.int .i64 t.st,.slice C k c2] 24)).alloc (.cells #[.int .i64 p.al,.slice B m1 d1,.slice B' m1' d1'] 28)=w1 at *
 have c1:=b1.cells
 have c2':=b2.cells
 have c3:=b3.cells
 have hx0:=Ext.refl w1
 go_upto_region 11 with (first
  |(go_at_call 15;with_reducible refine (szSystem_any (A:=A) (n:=n) (c:=c) (al:=s.al) (st:=s.st) (left:=1048576) hn h0 h1).mono ?_;rintro e w2 ⟨rfl,hx2⟩;have hw2:=hw1.trans hx2)
  |(go_at_call 15;with_reducible refine (szSystem_any (A:=C) (n:=k) (c:=c2) (al:=t.al) (st:=t.st) (left:=leftOf 1048576 n) hk p1 q1).mono ?_;rintro e w3 ⟨rfl,hx3⟩;have hx13:=hx2.trans hx3;have hw3:=hw1.trans hx13)
  |(go_at_call 16;with_reducible refine (szAutomaton_any _ _ _ _ _ _ _ _ _ _ _ (HP.out _ hw3) p2 q2).mono ?_;rintro e w4 ⟨rfl,hx4⟩;have hx14:=hx13.trans hx4;have hw4:=hw1.trans hx14))
 have HB:=za (fun W (hW:Ext w4 W)=>And.intro (b1.ext (hx14.trans hW)) (And.intro (b2.ext (hx14.trans hW)) (b3.ext (hx14.trans hW))))
 clear r1 r2 r3 p1 p2 p3 q1 q2 q3 c1 c2' c3 b1 b2 b3 hw1 hw2 hw3 hx0 hx2 hx3 hx4 hx13 hx14 h0 h1
 go_cut [8,9] (fun va vc wx=>∃ (G:Nat) (D:Option Addr) (j f:Nat) (D':Option Addr) (j' f' base:Nat),va=.pointer (some ⟨G,0,none⟩)∧vc=.bool vb∧w4.heap.size≤G∧Blk wx G 33 #[.bool hX,.int .i64 q.al,.slice D j f,.slice D' j' f',.string sX]∧zac wx base D j f D' j' f' q∧w4.heap.size≤base∧Ext w4 wx)
 case first =>
  have k1:∀ W,Ext w4 W→∀ j,W.cell? ⟨w.heap.size,j,none⟩=#[Value.int .i64 s.al,.int .i64 s.st,.slice A n c][j]?:=fun W hW=>((HB.out W hW).1).cell
  have k2:∀ W,Ext w4 W→∀ j,W.cell? ⟨w.heap.size+1,j,none⟩=#[Value.int .i64 t.al,.int .i64 t.st,.slice C k c2][j]?:=fun W hW=>((HB.out W hW).2.1).cell
  have k3:∀ W,Ext w4 W→∀ j,W.cell? ⟨w.heap.size+1+1,j,none⟩=#[Value.int .i64 p.al,.slice B m1 d1,.slice B' m1' d1'][j]?:=fun W hW=>((HB.out W hW).2.2).cell
  have hww:=Ext.refl w4
  refine uR (fun X=>Ext w4 X) [5,6,11] (zu.app [0,2,4] (zu.two 1 (zu.two 3 (zu.two 5 (zu.two 6 (zu.of [7,8,9,10,11,12]) 10 (zu.of [6,7,8,9,11,12])) 10 (zu.of [5,6,7,8,9,11,12])) 10 (zu.of [3,5,6,7,8,9,11,12])) 10 (zu.of [1,3,5,6,7,8,9,11,12]))) ?_
  refine uQ ?_
  have hxd:Ext w4 w4.drew:=(Ext.refl _).drew
  generalize w4.drew=wd at *
  refine zm (fun K hK=>?_) (fun K hK=>?_)
  ·go_simp
   refine (toSystem_any (HS.out _ (hw4.trans hxd)) z1).mono ?_
   rintro e wa1 ⟨E1,e1,k1,rfl,ow1,hxa2⟩
   have ha3:=hxd.trans hxa2
   refine hK.out _ _ ha3 ?_
   refine pT ?_
   refine zm (fun K hK=>?_) (fun K hK=>?_)
   ·go_simp
    refine (toSystem_any (HS'.out _ (hw4.trans ha3)) z2).mono ?_
    rintro e wa4 ⟨E2,e2,k2,rfl,ow2,hxa5⟩
    have ha6:=ha3.trans hxa5
    replace ow1:=ow1.ext hxa5
    refine hK.out _ _ ha6 ?_
    refine pT ?_
    refine zm (fun K hK=>?_) (fun K hK=>?_)
    ·go_simp
     refine (toAutomaton_any _ _ _ _ _ _ _ _ _ _ (HP.out _ (hw4.trans ha6)) z3).mono ?_
     rintro e wa7 ⟨E3,e3,k3,E3',e3',k3',rfl,ow3,hxa8⟩
     have ha9:=ha6.trans hxa8
     replace ow1:=ow1.ext hxa8
     replace ow2:=ow2.ext hxa8
     refine hK.out _ _ ha9 ?_
     refine pT ?_
     refine zm (fun K hK=>?_) (fun K hK=>?_)
     ·go_simp
      refine (HR.out _ _ _ _ _ _ _ _ _ _ _ _ _ _ _ _ _ _ _ ow1.reads ow2.reads ow3.reads (Nat.le_refl _)).mono ?_
      rintro e wa10 ⟨D,j,f,D',j',f',rfl,ow6,hxa11⟩
      have ha12:=ha9.trans hxa11
      replace ow1:=ow1.ext hxa11
      replace ow2:=ow2.ext hxa11
      replace ow3:=ow3.ext hxa11
      have hcs:=ha9.size
      refine hK.out _ _ ha12 ?_
      refine pT ?_
      refine uQ ?_
      refine ze fun K hK=>?_;go_simp
      have hxa:=(Ext.refl wa10).alloc (.cells #[.bool false,.int .i64 0,.slice none 0 0,.slice none 0 0,.string ⟨#[]⟩] 33)
      have bG:=Blk.new wa10 33 #[.bool false,.int .i64 0,.slice none 0 0,.slice none 0 0,.string ⟨#[]⟩]
      have ha14:=ha12.trans hxa
      have hGs:=ha12.size
      replace ow1:=ow1.ext hxa
      replace ow2:=ow2.ext hxa
      replace ow3:=ow3.ext hxa
      replace ow6:=ow6.ext hxa
      refine hK.out _ _ ha14 ?_
      clear hxa
      generalize wa10.alloc (.cells #[.bool false,.int .i64 0,.slice none 0 0,.slice none 0 0,.string ⟨#[]⟩] 33)=wa13 at *
      generalize wa10.heap.size=G at *
      refine pT ?_
      have cG:=bG.cell
      have fG:=bG.frozen
      refine zb fun K hK=>?_
      go_simp
      refine hK.out _ _ ?_
      refine uQ ?_
      refine zf ?_
      have hf:=zao wa13 G (.bool hX) (.int .i64 q.al) (.slice D j f) (.slice D' j' f') (.string sX)
      have hb:=zan bG rfl (.bool hX) (.int .i64 q.al) (.slice D j f) (.slice D' j' f') (.string sX)
      have Hf:=za (And.intro hGs (And.intro hb (And.intro (ow6.farT bG hf (by decide)) (And.intro hcs (ha14.frm hf (fun k hk e=>by have e':k=G:=e;omega))))))
      clear hf hb ow6 bG cG fG ha14
      go_wp2_with fail
      go_meet
      exact⟨G,D,j,f,D',j',f',_,rfl,rfl,Hf.out⟩
     ·go_simp
      have hxa:=(Ext.refl wa7).alloc (.cells #[.bool false,.int .i64 0,.slice none 0 0,.slice none 0 0,.string ⟨#[]⟩] 33)
      have bG:=Blk.new wa7 33 #[.bool false,.int .i64 0,.slice none 0 0,.slice none 0 0,.string ⟨#[]⟩]
      have ha16:=ha9.trans hxa
      have hGs:=ha9.size
      replace ow1:=ow1.ext hxa
      replace ow2:=ow2.ext hxa
      replace ow3:=ow3.ext hxa
      refine hK.out _ _ ha16 ?_
      clear hxa
      generalize wa7.alloc (.cells #[.bool false,.int .i64 0,.slice none 0 0,.slice none 0 0,.string ⟨#[]⟩] 33)=wa15 at *
      generalize wa7.heap.size=G at *
      refine pT ?_
      refine zb fun K hK=>?_
      go_simp
      refine (HR.out _ _ _ _ _ _ _ _ _ _ _ _ _ _ _ _ _ _ _ ow1.reads ow2.reads ow3.reads (Nat.le_refl _)).mono ?_
      rintro e wa17 ⟨D,j,f,D',j',f',rfl,ow6,hxa18⟩
      have ha19:=ha16.trans hxa18
      replace ow1:=ow1.ext hxa18
      replace ow2:=ow2.ext hxa18
      replace ow3:=ow3.ext hxa18
      replace bG:=bG.ext hxa18
      have hcs:=ha16.size
      refine hK.out _ _ ?_
      refine pT ?_
      refine uQ ?_
      have cG:=bG.cell
      have fG:=bG.frozen
      refine zb fun K hK=>?_
      go_simp
      refine hK.out _ _ ?_
      refine uQ ?_
      refine zf ?_
      have hf:=zao wa17 G (.bool hX) (.int .i64 q.al) (.slice D j f) (.slice D' j' f') (.string sX)
      have hb:=zan bG rfl (.bool hX) (.int .i64 q.al) (.slice D j f) (.slice D' j' f') (.string sX)
      have Hf:=za (And.intro hGs (And.intro hb (And.intro (ow6.farT bG hf (by decide)) (And.intro hcs (ha19.frm hf (fun k hk e=>by have e':k=G:=e;omega))))))
      clear hf hb ow6 bG cG fG ha19
      go_wp2_with fail
      go_meet
      exact⟨G,D,j,f,D',j',f',_,rfl,rfl,Hf.out⟩
    ·go_simp
     have hxa:=(Ext.refl wa4).alloc (.cells #[.bool false,.int .i64 0,.slice none 0 0,.slice none 0 0,.string ⟨#[]⟩] 33)
     have bG:=Blk.new wa4 33 #[.bool false,.int .i64 0,.slice none 0 0,.slice none 0 0,.string ⟨#[]⟩]
     have ha21:=ha6.trans hxa
     have hGs:=ha6.size
     replace ow1:=ow1.ext hxa
     replace ow2:=ow2.ext hxa
     refine hK.out _ _ ha21 ?_
     clear hxa
     generalize wa4.alloc (.cells #[.bool false,.int .i64 0,.slice none 0 0,.slice none 0 0,.string ⟨#[]⟩] 33)=wa20 at *
     generalize wa4.heap.size=G at *
     refine pT ?_
     refine zb fun K hK=>?_
     go_simp
     refine (toAutomaton_any _ _ _ _ _ _ _ _ _ _ (HP.out _ (hw4.trans ha21)) z3).mono ?_
     rintro e wa22 ⟨E3,e3,k3,E3',e3',k3',rfl,ow3,hxa23⟩
     have ha24:=ha21.trans hxa23
     replace ow1:=ow1.ext hxa23
     replace ow2:=ow2.ext hxa23
     replace bG:=bG.ext hxa23
     refine hK.out _ _ ?_
     refine pT ?_
     refine zb fun K hK=>?_
     go_simp
     refine (HR.out _ _ _ _ _ _ _ _ _ _ _ _ _ _ _ _ _ _ _ ow1.reads ow2.reads ow3.reads (Nat.le_refl _)).mono ?_
     rintro e wa25 ⟨D,j,f,D',j',f',rfl,ow6,hxa26⟩
     have ha27:=ha24.trans hxa26
     replace ow1:=ow1.ext hxa26
     replace ow2:=ow2.ext hxa26
     replace bG:=bG.ext hxa26
     replace ow3:=ow3.ext hxa26
     have hcs:=ha24.size
     refine hK.out _ _ ?_
     refine pT ?_
     refine uQ ?_
     have cG:=bG.cell
     have fG:=bG.frozen
     refine zb fun K hK=>?_
     go_simp
     refine hK.out _ _ ?_
     refine uQ ?_
     refine zf ?_
     have hf:=zao wa25 G (.bool hX) (.int .i64 q.al) (.slice D j f) (.slice D' j' f') (.string sX)
     have hb:=zan bG rfl (.bool hX) (.int .i64 q.al) (.slice D j f) (.slice D' j' f') (.string sX)
     have Hf:=za (And.intro hGs (And.intro hb (And.intro (ow6.farT bG hf (by decide)) (And.intro hcs (ha27.frm hf (fun k hk e=>by have e':k=G:=e;omega))))))
     clear hf hb ow6 bG cG fG ha27
     go_wp2_with fail
     go_meet
     exact⟨G,D,j,f,D',j',f',_,rfl,rfl,Hf.out⟩
   ·go_simp
    have hxa:=(Ext.refl wa1).alloc (.cells #[.bool false,.int .i64 0,.slice none 0 0,.slice none 0 0,.string ⟨#[]⟩] 33)
    have bG:=Blk.new wa1 33 #[.bool false,.int .i64 0,.slice none 0 0,.slice none 0 0,.string ⟨#[]⟩]
    have ha29:=ha3.trans hxa
    have hGs:=ha3.size
    replace ow1:=ow1.ext hxa
    refine hK.out _ _ ha29 ?_
    clear hxa
    generalize wa1.alloc (.cells #[.bool false,.int .i64 0,.slice none 0 0,.slice none 0 0,.string ⟨#[]⟩] 33)=wa28 at *
    generalize wa1.heap.size=G at *
    refine pT ?_
    refine ze fun K hK=>?_;go_simp
    refine (toSystem_any (HS'.out _ (hw4.trans ha29)) z2).mono ?_
    rintro e wa30 ⟨E2,e2,k2,rfl,ow2,hxa31⟩
    have ha32:=ha29.trans hxa31
    replace ow1:=ow1.ext hxa31
    replace bG:=bG.ext hxa31
    refine hK.out _ _ ha32 ?_
    refine pT ?_
    refine zb fun K hK=>?_
    go_simp
    refine (toAutomaton_any _ _ _ _ _ _ _ _ _ _ (HP.out _ (hw4.trans ha32)) z3).mono ?_
    rintro e wa33 ⟨E3,e3,k3,E3',e3',k3',rfl,ow3,hxa34⟩
    have ha35:=ha32.trans hxa34
    replace ow1:=ow1.ext hxa34
    replace bG:=bG.ext hxa34
    replace ow2:=ow2.ext hxa34
    refine hK.out _ _ ?_
    refine pT ?_
    refine zb fun K hK=>?_
    go_simp
    refine (HR.out _ _ _ _ _ _ _ _ _ _ _ _ _ _ _ _ _ _ _ ow1.reads ow2.reads ow3.reads (Nat.le_refl _)).mono ?_
    rintro e wa36 ⟨D,j,f,D',j',f',rfl,ow6,hxa37⟩
    have ha38:=ha35.trans hxa37
    replace ow1:=ow1.ext hxa37
    replace bG:=bG.ext hxa37
    replace ow2:=ow2.ext hxa37
    replace ow3:=ow3.ext hxa37
    have hcs:=ha35.size
    refine hK.out _ _ ?_
    refine pT ?_
    refine uQ ?_
    have cG:=bG.cell
    have fG:=bG.frozen
    refine zb fun K hK=>?_
    go_simp
    refine hK.out _ _ ?_
    refine uQ ?_
    refine zf ?_
    have hf:=zao wa36 G (.bool hX) (.int .i64 q.al) (.slice D j f) (.slice D' j' f') (.string sX)
    have hb:=zan bG rfl (.bool hX) (.int .i64 q.al) (.slice D j f) (.slice D' j' f') (.string sX)
    have Hf:=za (And.intro hGs (And.intro hb (And.intro (ow6.farT bG hf (by decide)) (And.intro hcs (ha38.frm hf (fun k hk e=>by have e':k=G:=e;omega))))))
    clear hf hb ow6 bG cG fG ha38
    go_wp2_with fail
    go_meet
    exact⟨G,D,j,f,D',j',f',_,rfl,rfl,Hf.out⟩
  ·go_simp
   have hxa:=(Ext.refl wd).alloc (.cells #[.bool false,.int .i64 0,.slice none 0 0,.slice none 0 0,.string ⟨#[]⟩] 33)
   have bG:=Blk.new wd 33 #[.bool false,.int .i64 0,.slice none 0 0,.slice none 0 0,.string ⟨#[]⟩]
   have ha40:=hxd.trans hxa
   have hGs:=hxd.size
   refine hK.out _ _ ha40 ?_
   clear hxa
   generalize wd.alloc (.cells #[.bool false,.int .i64 0,.slice none 0 0,.slice none 0 0,.string ⟨#[]⟩] 33)=wa39 at *
   generalize wd.heap.size=G at *
   refine pT ?_
   refine ze fun K hK=>?_;go_simp
   refine (toSystem_any (HS.out _ (hw4.trans ha40)) z1).mono ?_
   rintro e wa41 ⟨E1,e1,k1,rfl,ow1,hxa42⟩
   have ha43:=ha40.trans hxa42
   replace bG:=bG.ext hxa42
   refine hK.out _ _ ha43 ?_
   refine pT ?_
   refine ze fun K hK=>?_;go_simp
   refine (toSystem_any (HS'.out _ (hw4.trans ha43)) z2).mono ?_
   rintro e wa44 ⟨E2,e2,k2,rfl,ow2,hxa45⟩
   have ha46:=ha43.trans hxa45
   replace bG:=bG.ext hxa45
   replace ow1:=ow1.ext hxa45
   refine hK.out _ _ ha46 ?_
   refine pT ?_
   refine zb fun K hK=>?_
   go_simp
   refine (toAutomaton_any _ _ _ _ _ _ _ _ _ _ (HP.out _ (hw4.trans ha46)) z3).mono ?_
   rintro e wa47 ⟨E3,e3,k3,E3',e3',k3',rfl,ow3,hxa48⟩
   have ha49:=ha46.trans hxa48
   replace bG:=bG.ext hxa48
   replace ow1:=ow1.ext hxa48
   replace ow2:=ow2.ext hxa48
   refine hK.out _ _ ?_
   refine pT ?_
   refine zb fun K hK=>?_
   go_simp
   refine (HR.out _ _ _ _ _ _ _ _ _ _ _ _ _ _ _ _ _ _ _ ow1.reads ow2.reads ow3.reads (Nat.le_refl _)).mono ?_
   rintro e wa50 ⟨D,j,f,D',j',f',rfl,ow6,hxa51⟩
   have ha52:=ha49.trans hxa51
   replace bG:=bG.ext hxa51
   replace ow1:=ow1.ext hxa51
   replace ow2:=ow2.ext hxa51
   replace ow3:=ow3.ext hxa51
   have hcs:=ha49.size
   refine hK.out _ _ ?_
   refine pT ?_
   refine uQ ?_
   have cG:=bG.cell
   have fG:=bG.frozen
   refine zb fun K hK=>?_
   go_simp
   refine hK.out _ _ ?_
   refine uQ ?_
   refine zf ?_
   have hf:=zao wa50 G (.bool hX) (.int .i64 q.al) (.slice D j f) (.slice D' j' f') (.string sX)
   have hb:=zan bG rfl (.bool hX) (.int .i64 q.al) (.slice D j f) (.slice D' j' f') (.string sX)
   have Hf:=za (And.intro hGs (And.intro hb (And.intro (ow6.farT bG hf (by decide)) (And.intro hcs (ha52.frm hf (fun k hk e=>by have e':k=G:=e;omega))))))
   clear hf hb ow6 bG cG fG ha52
   go_wp2_with fail
   go_meet
   exact⟨G,D,j,f,D',j',f',_,rfl,rfl,Hf.out⟩
 case rest =>
 obtain⟨G8,D8,j8,f8,D8',j8',f8',base8,rfl,rfl,hg8,b8,own8,hbs8,hx4c⟩:=hcut
 obtain⟨w5,hw5e⟩:∃ w5,w5=wc:=⟨_,rfl⟩
 subst hw5e
 have hw:=hw4.trans hx4c
 obtain⟨b1,b2,b3⟩:=HB.out _ hx4c
 have r8:=own8.reads
 have hz4:=za hw4.size
 have hz5:=za hx4c.size
 have hg8':=za hg8
 have hbs8':=za hbs8
 have hb8l:=za b8.lt
 have hb3l:=za b3.lt
 clear own8 HB hx4c hg8 hbs8
 have k_b1:=b1.cell
 go_upto_region 99 with fail
 refine (toSystem_any (HS.out _ hw) z1).mono ?_
 rintro e v10 ⟨E10,e10,k10,rfl,own10,hxc10⟩
 clear k_b1
 replace hw:=hw.trans hxc10
 replace b1:=b1.ext hxc10
 replace b2:=b2.ext hxc10
 replace b3:=b3.ext hxc10
 replace r8:=r8.ext hxc10
 replace b8:=b8.ext hxc10
 have hzv10:=za hxc10.size
 have hi10:=za (fun b (hb:blk E10 b)=>blk_own own10 hb)
 go_upto_region 13 with fail
 have hxa:=(Ext.refl v10).alloc (.cells #[.int .i64 s.al,.int .i64 s.st,.slice E10 e10 k10] 38)
 have b10:=Blk.new v10 38 #[.int .i64 s.al,.int .i64 s.st,.slice E10 e10 k10]
 replace hw:=hw.trans hxa
 replace b1:=b1.ext hxa
 replace b2:=b2.ext hxa
 replace b3:=b3.ext hxa
 replace r8:=r8.ext hxa
 replace b8:=b8.ext hxa
 replace own10:=own10.ext hxa
 have hz_u10:=za (show v10.heap.size<(v10.alloc (.cells #[.int .i64 s.al,.int .i64 s.st,.slice E10 e10 k10] 38)).heap.size by simp)
 clear hxa
 generalize v10.alloc (.cells #[.int .i64 s.al,.int .i64 s.st,.slice E10 e10 k10] 38)=u10 at *
 obtain⟨G10,hG10⟩:∃ G,Hid (G=v10.heap.size):=⟨_,za rfl⟩
 rw [← hG10.out] at b10
 try rw [← hG10.out]
 clear hxc10
 have k_b2:=b2.cell
 go_upto_region 99 with fail
 refine (toSystem_any (HS'.out _ hw) z2).mono ?_
 rintro e v11 ⟨E11,e11,k11,rfl,own11,hxc11⟩
 clear k_b2
 replace hw:=hw.trans hxc11
 replace b1:=b1.ext hxc11
 replace b2:=b2.ext hxc11
 replace b3:=b3.ext hxc11
 replace r8:=r8.ext hxc11
 replace b8:=b8.ext hxc11
 replace own10:=own10.ext hxc11
 replace b10:=b10.ext hxc11
 have hzv11:=za hxc11.size
 have hi11:=za (fun b (hb:blk E11 b)=>blk_own own11 hb)
 go_upto_region 14 with fail
 have hxa:=(Ext.refl v11).alloc (.cells #[.int .i64 t.al,.int .i64 t.st,.slice E11 e11 k11] 38)
 have b11:=Blk.new v11 38 #[.int .i64 t.al,.int .i64 t.st,.slice E11 e11 k11]
 replace hw:=hw.trans hxa
 replace b1:=b1.ext hxa
 replace b2:=b2.ext hxa
 replace b3:=b3.ext hxa
 replace r8:=r8.ext hxa
 replace b8:=b8.ext hxa
 replace own10:=own10.ext hxa
 replace b10:=b10.ext hxa
 replace own11:=own11.ext hxa
 have hz_u11:=za (show v11.heap.size<(v11.alloc (.cells #[.int .i64 t.al,.int .i64 t.st,.slice E11 e11 k11] 38)).heap.size by simp)
 clear hxa
 generalize v11.alloc (.cells #[.int .i64 t.al,.int .i64 t.st,.slice E11 e11 k11] 38)=u11 at *
 obtain⟨G11,hG11⟩:∃ G,Hid (G=v11.heap.size):=⟨_,za rfl⟩
 rw [← hG11.out] at b11
 try rw [← hG11.out]
 clear hxc11
 have k_b3:=b3.cell
 go_upto_region 99 with fail
 refine (toAutomaton_any _ _ _ _ _ _ _ _ _ _ (HP.out _ hw) z3).mono ?_
 rintro e v12 ⟨E12,e12,k12,E12',e12',k12',rfl,own12,hxc12⟩
 clear k_b3
 replace hw:=hw.trans hxc12
 replace b1:=b1.ext hxc12
 replace b2:=b2.ext hxc12
 replace b3:=b3.ext hxc12
 replace r8:=r8.ext hxc12
 replace b8:=b8.ext hxc12
 replace own10:=own10.ext hxc12
 replace b10:=b10.ext hxc12
 replace own11:=own11.ext hxc12
 replace b11:=b11.ext hxc12
 have hzv12:=za hxc12.size
 have own12h:=own12.high
 go_upto_region 15 with fail
 have hxa:=(Ext.refl v12).alloc (.cells #[.int .i64 p.al,.slice E12 e12 k12,.slice E12' e12' k12'] 31)
 have b12:=Blk.new v12 31 #[.int .i64 p.al,.slice E12 e12 k12,.slice E12' e12' k12']
 replace hw:=hw.trans hxa
 replace b1:=b1.ext hxa
 replace b2:=b2.ext hxa
 replace b3:=b3.ext hxa
 replace r8:=r8.ext hxa
 replace b8:=b8.ext hxa
 replace own10:=own10.ext hxa
 replace b10:=b10.ext hxa
 replace own11:=own11.ext hxa
 replace b11:=b11.ext hxa
 replace own12:=own12.ext hxa
 replace own12h:=own12h.ext hxa
 have hz_u12:=za (show v12.heap.size<(v12.alloc (.cells #[.int .i64 p.al,.slice E12 e12 k12,.slice E12' e12' k12'] 31)).heap.size by simp)
 clear hxa
 generalize v12.alloc (.cells #[.int .i64 p.al,.slice E12 e12 k12,.slice E12' e12' k12'] 31)=u12 at *
 obtain⟨G12,hG12⟩:∃ G,Hid (G=v12.heap.size):=⟨_,za rfl⟩
 rw [← hG12.out] at b12
 try rw [← hG12.out]
 clear hxc12
 have k_b10:=b10.cell
 have k_b11:=b11.cell
 have k_b12:=b12.cell
 go_upto_region 99 with fail
 refine (HI.out _ _ _ _ _ _ _ _ _ _ _ _ _ _ _ _ _ _ _ own10.reads own11.reads own12.reads hw).mono ?_
 rintro e v13 ⟨D13,j13,f13,D13',j13',f13',rfl,own13,hxc13⟩
 clear k_b10 k_b11 k_b12
 replace hw:=hw.trans hxc13
 replace b1:=b1.ext hxc13
 replace b2:=b2.ext hxc13
 replace b3:=b3.ext hxc13
 replace r8:=r8.ext hxc13
 replace b8:=b8.ext hxc13
 replace own10:=own10.ext hxc13
 replace b10:=b10.ext hxc13
 replace own11:=own11.ext hxc13
 replace b11:=b11.ext hxc13
 replace own12:=own12.ext hxc13
 replace own12h:=own12h.ext hxc13
 replace b12:=b12.ext hxc13
 have hzv13:=za hxc13.size
 have own13h:=own13.high
 go_upto_region 16 with fail
 have hxa:=(Ext.refl v13).alloc (.cells #[.bool hX,.int .i64 q.al,.slice D13 j13 f13,.slice D13' j13' f13',.string sX] 33)
 have b13:=Blk.new v13 33 #[.bool hX,.int .i64 q.al,.slice D13 j13 f13,.slice D13' j13' f13',.string sX]
 replace hw:=hw.trans hxa
 replace b1:=b1.ext hxa
 replace b2:=b2.ext hxa
 replace b3:=b3.ext hxa
 replace r8:=r8.ext hxa
 replace b8:=b8.ext hxa
 replace own10:=own10.ext hxa
 replace b10:=b10.ext hxa
 replace own11:=own11.ext hxa
 replace b11:=b11.ext hxa
 replace own12:=own12.ext hxa
 replace own12h:=own12h.ext hxa
 replace b12:=b12.ext hxa
 replace own13:=own13.ext hxa
 replace own13h:=own13h.ext hxa
 have hz_u13:=za (show v13.heap.size<(v13.alloc (.cells #[.bool hX,.int .i64 q.al,.slice D13 j13 f13,.slice D13' j13' f13',.string sX] 33)).heap.size by simp)
 clear hxa
 generalize v13.alloc (.cells #[.bool hX,.int .i64 q.al,.slice D13 j13 f13,.slice D13' j13' f13',.string sX] 33)=u13 at *
 obtain⟨G13,hG13⟩:∃ G,Hid (G=v13.heap.size):=⟨_,za rfl⟩
 rw [← hG13.out] at b13
 try rw [← hG13.out]
 clear hxc13
 have k_b13:=b13.cell
 have k_b8:=b8.cell
 go_upto_region 99 with fail
 refine (eqCertificate_same own13.reads r8).mono ?_
 rintro e y0 ⟨rfl,hx_y0⟩
 clear k_b13 k_b8
 replace hw:=hw.trans hx_y0
 replace b1:=b1.ext hx_y0
 replace b2:=b2.ext hx_y0
 replace b3:=b3.ext hx_y0
 replace r8:=r8.ext hx_y0
 replace b8:=b8.ext hx_y0
 replace own10:=own10.ext hx_y0
 replace b10:=b10.ext hx_y0
 replace own11:=own11.ext hx_y0
 replace b11:=b11.ext hx_y0
 replace own12:=own12.ext hx_y0
 replace own12h:=own12h.ext hx_y0
 replace b12:=b12.ext hx_y0
 replace own13:=own13.ext hx_y0
 replace own13h:=own13h.ext hx_y0
 replace b13:=b13.ext hx_y0
 clear hx_y0
 go_upto_region 18 with fail
 have g1:=b1.cells
 have g5:=b10.cells
 have hww:=Ext.refl y0
 refine uR (fun X=>Ext y0 X) [3] (zu.of [0,1,2,3,4]) ?_
 refine uQ ?_
 refine ze fun K hK=>?_;go_simp
 refine (toSystem_any (HS.out _ (hw.trans hww.drew)) z1).mono ?_
 rintro e yy0 ⟨Eq,eq_,kq,rfl,ziJ,hxq⟩
 have hxx:=hww.drew.trans hxq
 refine hK.out _ _ hxx ?_
 refine pT ?_
 refine uQ ?_
 refine zb fun K hK=>?_
 go_simp
 have hsame:=za (sysEq_self s)
 refine (eqSystem_any (own10.ext hxx).reads ziJ.reads).mono ?_
 rw [hsame.out]
 rintro e y1 ⟨rfl,hxe⟩
 refine hK.out _ _ ?_
 refine pT ?_
 refine uQ ?_
 refine zf ?_
 have hxz:=hxx.trans hxe
 clear g1 g5 hww ziJ hxq hxx hxe hK hsame
 replace hw:=hw.trans hxz
 replace b1:=b1.ext hxz
 replace b2:=b2.ext hxz
 replace b3:=b3.ext hxz
 replace r8:=r8.ext hxz
 replace b8:=b8.ext hxz
 replace own10:=own10.ext hxz
 replace b10:=b10.ext hxz
 replace own11:=own11.ext hxz
 replace b11:=b11.ext hxz
 replace own12:=own12.ext hxz
 replace own12h:=own12h.ext hxz
 replace b12:=b12.ext hxz
 replace own13:=own13.ext hxz
 replace own13h:=own13h.ext hxz
 replace b13:=b13.ext hxz
 clear hxz
 go_upto_region 20 with fail
 have g1:=b2.cells
 have g5:=b11.cells
 have hww:=Ext.refl y1
 refine uR (fun X=>Ext y1 X) [3] (zu.of [0,1,2,3,4]) ?_
 refine uQ ?_
 refine ze fun K hK=>?_;go_simp
 refine (toSystem_any (HS'.out _ (hw.trans hww.drew)) z2).mono ?_
 rintro e yy1 ⟨Eq,eq_,kq,rfl,ziJ,hxq⟩
 have hxx:=hww.drew.trans hxq
 refine hK.out _ _ hxx ?_
 refine pT ?_
 refine uQ ?_
 refine zb fun K hK=>?_
 go_simp
 have hsame:=za (sysEq_self t)
 refine (eqSystem_any (own11.ext hxx).reads ziJ.reads).mono ?_
 rw [hsame.out]
 rintro e y2 ⟨rfl,hxe⟩
 refine hK.out _ _ ?_
 refine pT ?_
 refine uQ ?_
 refine zf ?_
 have hxz:=hxx.trans hxe
 clear g1 g5 hww ziJ hxq hxx hxe hK hsame
 replace hw:=hw.trans hxz
 replace b1:=b1.ext hxz
 replace b2:=b2.ext hxz
 replace b3:=b3.ext hxz
 replace r8:=r8.ext hxz
 replace b8:=b8.ext hxz
 replace own10:=own10.ext hxz
 replace b10:=b10.ext hxz
 replace own11:=own11.ext hxz
 replace b11:=b11.ext hxz
 replace own12:=own12.ext hxz
 replace own12h:=own12h.ext hxz
 replace b12:=b12.ext hxz
 replace own13:=own13.ext hxz
 replace own13h:=own13h.ext hxz
 replace b13:=b13.ext hxz
 clear hxz
 go_upto_region 22 with fail
 have g1:=b3.cells
 have g5:=b12.cells
 have hww:=Ext.refl y2
 refine uR (fun X=>Ext y2 X) [3] (zu.of [0,1,2,3,4]) ?_
 refine uQ ?_
 refine ze fun K hK=>?_;go_simp
 refine (toAutomaton_any _ _ _ _ _ _ _ _ _ _ (HP.out _ (hw.trans hww.drew)) z3).mono ?_
 rintro e yy2 ⟨Eq,eq_,kq,Eq',eq_',kq',rfl,ziJ,hxq⟩
 have hxx:=hww.drew.trans hxq
 refine hK.out _ _ hxx ?_
 refine pT ?_
 refine uQ ?_
 refine zb fun K hK=>?_
 go_simp
 have hsame:=za (autEq_self p)
 refine (zgk _ _ _ _ _ _ _ _ _ _ _ _ _ _ _ _ _ _ _ (own12.ext hxx).reads ziJ.reads).mono ?_
 rw [hsame.out]
 rintro e y3 ⟨rfl,hxe⟩
 refine hK.out _ _ ?_
 refine pT ?_
 refine uQ ?_
 refine zf ?_
 have hxz:=hxx.trans hxe
 clear g1 g5 hww ziJ hxq hxx hxe hK hsame
 replace hw:=hw.trans hxz
 replace b1:=b1.ext hxz
 replace b2:=b2.ext hxz
 replace b3:=b3.ext hxz
 replace r8:=r8.ext hxz
 replace b8:=b8.ext hxz
 replace own10:=own10.ext hxz
 replace b10:=b10.ext hxz
 replace own11:=own11.ext hxz
 replace b11:=b11.ext hxz
 replace own12:=own12.ext hxz
 replace own12h:=own12h.ext hxz
 replace b12:=b12.ext hxz
 replace own13:=own13.ext hxz
 replace own13h:=own13h.ext hxz
 replace b13:=b13.ext hxz
 clear hxz
 have k_b10:=b10.cell
 have he10:=za (show e10≤1048576 by have:=own10.1;have:=hsl.out;omega)
 have he11:=za (show e11≤1048576 by have:=own11.1;have:=htl.out;omega)
 have hk10:1+e10*3≤4611686018427387904:=by have:=he10.out;omega
 go_upto_region 99 with fail
 refine (markSystem_any (k:=1) own10.2 hk10).mono ?_
 rintro e wm1 ⟨rfl,hf1⟩
 clear k_b10
 clear own10 b10
 replace hw:=hw.frm hf1 (fun k hk hS=>by have:=hi10.out _ hS;have:=hz4.out;have:=hz5.out;have:=hg8'.out;have:=hbs8'.out;have:=hb8l.out;have:=hb3l.out;have:=hzv10.out;have:=hz_u10.out;have:=hG10.out;have:=hzv11.out;have:=hz_u11.out;have:=hG11.out;have:=hzv12.out;have:=hz_u12.out;have:=hG12.out;have:=hzv13.out;have:=hz_u13.out;have:=hG13.out;omega)
 replace b1:=b1.frm hf1 (fun hS=>by have:=hi10.out _ hS;have:=hz4.out;have:=hz5.out;have:=hg8'.out;have:=hbs8'.out;have:=hb8l.out;have:=hb3l.out;have:=hzv10.out;have:=hz_u10.out;have:=hG10.out;have:=hzv11.out;have:=hz_u11.out;have:=hG11.out;have:=hzv12.out;have:=hz_u12.out;have:=hG12.out;have:=hzv13.out;have:=hz_u13.out;have:=hG13.out;omega)
 replace b2:=b2.frm hf1 (fun hS=>by have:=hi10.out _ hS;have:=hz4.out;have:=hz5.out;have:=hg8'.out;have:=hbs8'.out;have:=hb8l.out;have:=hb3l.out;have:=hzv10.out;have:=hz_u10.out;have:=hG10.out;have:=hzv11.out;have:=hz_u11.out;have:=hG11.out;have:=hzv12.out;have:=hz_u12.out;have:=hG12.out;have:=hzv13.out;have:=hz_u13.out;have:=hG13.out;omega)
 replace b3:=b3.frm hf1 (fun hS=>by have:=hi10.out _ hS;have:=hz4.out;have:=hz5.out;have:=hg8'.out;have:=hbs8'.out;have:=hb8l.out;have:=hb3l.out;have:=hzv10.out;have:=hz_u10.out;have:=hG10.out;have:=hzv11.out;have:=hz_u11.out;have:=hG11.out;have:=hzv12.out;have:=hz_u12.out;have:=hG12.out;have:=hzv13.out;have:=hz_u13.out;have:=hG13.out;omega)
 replace r8:=r8.frm hf1 (fun k h1 h2 hS=>by have:=hi10.out _ hS;have:=hz4.out;have:=hz5.out;have:=hg8'.out;have:=hbs8'.out;have:=hb8l.out;have:=hb3l.out;have:=hzv10.out;have:=hz_u10.out;have:=hG10.out;have:=hzv11.out;have:=hz_u11.out;have:=hG11.out;have:=hzv12.out;have:=hz_u12.out;have:=hG12.out;have:=hzv13.out;have:=hz_u13.out;have:=hG13.out;omega)
 replace b8:=b8.frm hf1 (fun hS=>by have:=hi10.out _ hS;have:=hz4.out;have:=hz5.out;have:=hg8'.out;have:=hbs8'.out;have:=hb8l.out;have:=hb3l.out;have:=hzv10.out;have:=hz_u10.out;have:=hG10.out;have:=hzv11.out;have:=hz_u11.out;have:=hG11.out;have:=hzv12.out;have:=hz_u12.out;have:=hG12.out;have:=hzv13.out;have:=hz_u13.out;have:=hG13.out;omega)
 replace own11:=own11.keep hf1 (fun k h1 hS=>by have:=hi10.out _ hS;have:=hz4.out;have:=hz5.out;have:=hg8'.out;have:=hbs8'.out;have:=hb8l.out;have:=hb3l.out;have:=hzv10.out;have:=hz_u10.out;have:=hG10.out;have:=hzv11.out;have:=hz_u11.out;have:=hG11.out;have:=hzv12.out;have:=hz_u12.out;have:=hG12.out;have:=hzv13.out;have:=hz_u13.out;have:=hG13.out;omega)
 replace b11:=b11.frm hf1 (fun hS=>by have:=hi10.out _ hS;have:=hz4.out;have:=hz5.out;have:=hg8'.out;have:=hbs8'.out;have:=hb8l.out;have:=hb3l.out;have:=hzv10.out;have:=hz_u10.out;have:=hG10.out;have:=hzv11.out;have:=hz_u11.out;have:=hG11.out;have:=hzv12.out;have:=hz_u12.out;have:=hG12.out;have:=hzv13.out;have:=hz_u13.out;have:=hG13.out;omega)
 replace own12:=own12.keep hf1 (fun k h1 hS=>by have:=hi10.out _ hS;have:=hz4.out;have:=hz5.out;have:=hg8'.out;have:=hbs8'.out;have:=hb8l.out;have:=hb3l.out;have:=hzv10.out;have:=hz_u10.out;have:=hG10.out;have:=hzv11.out;have:=hz_u11.out;have:=hG11.out;have:=hzv12.out;have:=hz_u12.out;have:=hG12.out;have:=hzv13.out;have:=hz_u13.out;have:=hG13.out;omega)
 replace own12h:=own12h.frm hf1 (fun k h1 h2 hS=>by have:=hi10.out _ hS;have:=hz4.out;have:=hz5.out;have:=hg8'.out;have:=hbs8'.out;have:=hb8l.out;have:=hb3l.out;have:=hzv10.out;have:=hz_u10.out;have:=hG10.out;have:=hzv11.out;have:=hz_u11.out;have:=hG11.out;have:=hzv12.out;have:=hz_u12.out;have:=hG12.out;have:=hzv13.out;have:=hz_u13.out;have:=hG13.out;omega)
 replace b12:=b12.frm hf1 (fun hS=>by have:=hi10.out _ hS;have:=hz4.out;have:=hz5.out;have:=hg8'.out;have:=hbs8'.out;have:=hb8l.out;have:=hb3l.out;have:=hzv10.out;have:=hz_u10.out;have:=hG10.out;have:=hzv11.out;have:=hz_u11.out;have:=hG11.out;have:=hzv12.out;have:=hz_u12.out;have:=hG12.out;have:=hzv13.out;have:=hz_u13.out;have:=hG13.out;omega)
 replace own13:=own13.keep hf1 (fun k h1 hS=>by have:=hi10.out _ hS;have:=hz4.out;have:=hz5.out;have:=hg8'.out;have:=hbs8'.out;have:=hb8l.out;have:=hb3l.out;have:=hzv10.out;have:=hz_u10.out;have:=hG10.out;have:=hzv11.out;have:=hz_u11.out;have:=hG11.out;have:=hzv12.out;have:=hz_u12.out;have:=hG12.out;have:=hzv13.out;have:=hz_u13.out;have:=hG13.out;omega)
 replace own13h:=own13h.frm hf1 (fun k h1 h2 hS=>by have:=hi10.out _ hS;have:=hz4.out;have:=hz5.out;have:=hg8'.out;have:=hbs8'.out;have:=hb8l.out;have:=hb3l.out;have:=hzv10.out;have:=hz_u10.out;have:=hG10.out;have:=hzv11.out;have:=hz_u11.out;have:=hG11.out;have:=hzv12.out;have:=hz_u12.out;have:=hG12.out;have:=hzv13.out;have:=hz_u13.out;have:=hG13.out;omega)
 replace b13:=b13.frm hf1 (fun hS=>by have:=hi10.out _ hS;have:=hz4.out;have:=hz5.out;have:=hg8'.out;have:=hbs8'.out;have:=hb8l.out;have:=hb3l.out;have:=hzv10.out;have:=hz_u10.out;have:=hG10.out;have:=hzv11.out;have:=hz_u11.out;have:=hG11.out;have:=hzv12.out;have:=hz_u12.out;have:=hG12.out;have:=hzv13.out;have:=hz_u13.out;have:=hG13.out;omega)
 clear hf1
 have k_b11:=b11.cell
 have hk11:1+e10*3+e11*3≤4611686018427387904:=by have:=he10.out;have:=he11.out;omega
 go_upto_region 99 with fail
 refine (markSystem_any (k:=1+e10*3) own11.2 hk11).mono ?_
 rintro e wm2 ⟨rfl,hf2⟩
 clear k_b11
 clear own11 b11
 replace hw:=hw.frm hf2 (fun k hk hS=>by have:=hi11.out _ hS;have:=hz4.out;have:=hz5.out;have:=hg8'.out;have:=hbs8'.out;have:=hb8l.out;have:=hb3l.out;have:=hzv10.out;have:=hz_u10.out;have:=hG10.out;have:=hzv11.out;have:=hz_u11.out;have:=hG11.out;have:=hzv12.out;have:=hz_u12.out;have:=hG12.out;have:=hzv13.out;have:=hz_u13.out;have:=hG13.out;omega)
 replace b1:=b1.frm hf2 (fun hS=>by have:=hi11.out _ hS;have:=hz4.out;have:=hz5.out;have:=hg8'.out;have:=hbs8'.out;have:=hb8l.out;have:=hb3l.out;have:=hzv10.out;have:=hz_u10.out;have:=hG10.out;have:=hzv11.out;have:=hz_u11.out;have:=hG11.out;have:=hzv12.out;have:=hz_u12.out;have:=hG12.out;have:=hzv13.out;have:=hz_u13.out;have:=hG13.out;omega)
 replace b2:=b2.frm hf2 (fun hS=>by have:=hi11.out _ hS;have:=hz4.out;have:=hz5.out;have:=hg8'.out;have:=hbs8'.out;have:=hb8l.out;have:=hb3l.out;have:=hzv10.out;have:=hz_u10.out;have:=hG10.out;have:=hzv11.out;have:=hz_u11.out;have:=hG11.out;have:=hzv12.out;have:=hz_u12.out;have:=hG12.out;have:=hzv13.out;have:=hz_u13.out;have:=hG13.out;omega)
 replace b3:=b3.frm hf2 (fun hS=>by have:=hi11.out _ hS;have:=hz4.out;have:=hz5.out;have:=hg8'.out;have:=hbs8'.out;have:=hb8l.out;have:=hb3l.out;have:=hzv10.out;have:=hz_u10.out;have:=hG10.out;have:=hzv11.out;have:=hz_u11.out;have:=hG11.out;have:=hzv12.out;have:=hz_u12.out;have:=hG12.out;have:=hzv13.out;have:=hz_u13.out;have:=hG13.out;omega)
 replace r8:=r8.frm hf2 (fun k h1 h2 hS=>by have:=hi11.out _ hS;have:=hz4.out;have:=hz5.out;have:=hg8'.out;have:=hbs8'.out;have:=hb8l.out;have:=hb3l.out;have:=hzv10.out;have:=hz_u10.out;have:=hG10.out;have:=hzv11.out;have:=hz_u11.out;have:=hG11.out;have:=hzv12.out;have:=hz_u12.out;have:=hG12.out;have:=hzv13.out;have:=hz_u13.out;have:=hG13.out;omega)
 replace b8:=b8.frm hf2 (fun hS=>by have:=hi11.out _ hS;have:=hz4.out;have:=hz5.out;have:=hg8'.out;have:=hbs8'.out;have:=hb8l.out;have:=hb3l.out;have:=hzv10.out;have:=hz_u10.out;have:=hG10.out;have:=hzv11.out;have:=hz_u11.out;have:=hG11.out;have:=hzv12.out;have:=hz_u12.out;have:=hG12.out;have:=hzv13.out;have:=hz_u13.out;have:=hG13.out;omega)
 replace own12:=own12.keep hf2 (fun k h1 hS=>by have:=hi11.out _ hS;have:=hz4.out;have:=hz5.out;have:=hg8'.out;have:=hbs8'.out;have:=hb8l.out;have:=hb3l.out;have:=hzv10.out;have:=hz_u10.out;have:=hG10.out;have:=hzv11.out;have:=hz_u11.out;have:=hG11.out;have:=hzv12.out;have:=hz_u12.out;have:=hG12.out;have:=hzv13.out;have:=hz_u13.out;have:=hG13.out;omega)
 replace own12h:=own12h.frm hf2 (fun k h1 h2 hS=>by have:=hi11.out _ hS;have:=hz4.out;have:=hz5.out;have:=hg8'.out;have:=hbs8'.out;have:=hb8l.out;have:=hb3l.out;have:=hzv10.out;have:=hz_u10.out;have:=hG10.out;have:=hzv11.out;have:=hz_u11.out;have:=hG11.out;have:=hzv12.out;have:=hz_u12.out;have:=hG12.out;have:=hzv13.out;have:=hz_u13.out;have:=hG13.out;omega)
 replace b12:=b12.frm hf2 (fun hS=>by have:=hi11.out _ hS;have:=hz4.out;have:=hz5.out;have:=hg8'.out;have:=hbs8'.out;have:=hb8l.out;have:=hb3l.out;have:=hzv10.out;have:=hz_u10.out;have:=hG10.out;have:=hzv11.out;have:=hz_u11.out;have:=hG11.out;have:=hzv12.out;have:=hz_u12.out;have:=hG12.out;have:=hzv13.out;have:=hz_u13.out;have:=hG13.out;omega)
 replace own13:=own13.keep hf2 (fun k h1 hS=>by have:=hi11.out _ hS;have:=hz4.out;have:=hz5.out;have:=hg8'.out;have:=hbs8'.out;have:=hb8l.out;have:=hb3l.out;have:=hzv10.out;have:=hz_u10.out;have:=hG10.out;have:=hzv11.out;have:=hz_u11.out;have:=hG11.out;have:=hzv12.out;have:=hz_u12.out;have:=hG12.out;have:=hzv13.out;have:=hz_u13.out;have:=hG13.out;omega)
 replace own13h:=own13h.frm hf2 (fun k h1 h2 hS=>by have:=hi11.out _ hS;have:=hz4.out;have:=hz5.out;have:=hg8'.out;have:=hbs8'.out;have:=hb8l.out;have:=hb3l.out;have:=hzv10.out;have:=hz_u10.out;have:=hG10.out;have:=hzv11.out;have:=hz_u11.out;have:=hG11.out;have:=hzv12.out;have:=hz_u12.out;have:=hG12.out;have:=hzv13.out;have:=hz_u13.out;have:=hG13.out;omega)
 replace b13:=b13.frm hf2 (fun hS=>by have:=hi11.out _ hS;have:=hz4.out;have:=hz5.out;have:=hg8'.out;have:=hbs8'.out;have:=hb8l.out;have:=hb3l.out;have:=hzv10.out;have:=hz_u10.out;have:=hG10.out;have:=hzv11.out;have:=hz_u11.out;have:=hG11.out;have:=hzv12.out;have:=hz_u12.out;have:=hG12.out;have:=hzv13.out;have:=hz_u13.out;have:=hG13.out;omega)
 clear hf2
 have k_b12:=b12.cell
 have hk12:1+e10*3+e11*3+cntA p≤4611686018427387904:=by have:=cnt_size p;have:=he10.out;have:=he11.out;omega
 go_upto_region 99 with fail
 refine (zfv (k:=1+e10*3+e11*3) own12h hk12).mono ?_
 rintro e wm3 ⟨rfl,-,hf3⟩
 clear k_b12
 clear own12 own12h b12
 replace hw:=hw.frm hf3 (fun k hk hS=>by have hS':=hS;have:=hz4.out;have:=hz5.out;have:=hg8'.out;have:=hbs8'.out;have:=hb8l.out;have:=hb3l.out;have:=hzv10.out;have:=hz_u10.out;have:=hG10.out;have:=hzv11.out;have:=hz_u11.out;have:=hG11.out;have:=hzv12.out;have:=hz_u12.out;have:=hG12.out;have:=hzv13.out;have:=hz_u13.out;have:=hG13.out;omega)
 replace b1:=b1.frm hf3 (fun hS=>by have hS':=hS;have:=hz4.out;have:=hz5.out;have:=hg8'.out;have:=hbs8'.out;have:=hb8l.out;have:=hb3l.out;have:=hzv10.out;have:=hz_u10.out;have:=hG10.out;have:=hzv11.out;have:=hz_u11.out;have:=hG11.out;have:=hzv12.out;have:=hz_u12.out;have:=hG12.out;have:=hzv13.out;have:=hz_u13.out;have:=hG13.out;omega)
 replace b2:=b2.frm hf3 (fun hS=>by have hS':=hS;have:=hz4.out;have:=hz5.out;have:=hg8'.out;have:=hbs8'.out;have:=hb8l.out;have:=hb3l.out;have:=hzv10.out;have:=hz_u10.out;have:=hG10.out;have:=hzv11.out;have:=hz_u11.out;have:=hG11.out;have:=hzv12.out;have:=hz_u12.out;have:=hG12.out;have:=hzv13.out;have:=hz_u13.out;have:=hG13.out;omega)
 replace b3:=b3.frm hf3 (fun hS=>by have hS':=hS;have:=hz4.out;have:=hz5.out;have:=hg8'.out;have:=hbs8'.out;have:=hb8l.out;have:=hb3l.out;have:=hzv10.out;have:=hz_u10.out;have:=hG10.out;have:=hzv11.out;have:=hz_u11.out;have:=hG11.out;have:=hzv12.out;have:=hz_u12.out;have:=hG12.out;have:=hzv13.out;have:=hz_u13.out;have:=hG13.out;omega)
 replace r8:=r8.frm hf3 (fun k h1 h2 hS=>by have hS':=hS;have:=hz4.out;have:=hz5.out;have:=hg8'.out;have:=hbs8'.out;have:=hb8l.out;have:=hb3l.out;have:=hzv10.out;have:=hz_u10.out;have:=hG10.out;have:=hzv11.out;have:=hz_u11.out;have:=hG11.out;have:=hzv12.out;have:=hz_u12.out;have:=hG12.out;have:=hzv13.out;have:=hz_u13.out;have:=hG13.out;omega)
 replace b8:=b8.frm hf3 (fun hS=>by have hS':=hS;have:=hz4.out;have:=hz5.out;have:=hg8'.out;have:=hbs8'.out;have:=hb8l.out;have:=hb3l.out;have:=hzv10.out;have:=hz_u10.out;have:=hG10.out;have:=hzv11.out;have:=hz_u11.out;have:=hG11.out;have:=hzv12.out;have:=hz_u12.out;have:=hG12.out;have:=hzv13.out;have:=hz_u13.out;have:=hG13.out;omega)
 replace own13:=own13.keep hf3 (fun k h1 hS=>by have hS':=hS;have:=hz4.out;have:=hz5.out;have:=hg8'.out;have:=hbs8'.out;have:=hb8l.out;have:=hb3l.out;have:=hzv10.out;have:=hz_u10.out;have:=hG10.out;have:=hzv11.out;have:=hz_u11.out;have:=hG11.out;have:=hzv12.out;have:=hz_u12.out;have:=hG12.out;have:=hzv13.out;have:=hz_u13.out;have:=hG13.out;omega)
 replace own13h:=own13h.frm hf3 (fun k h1 h2 hS=>by have hS':=hS;have:=hz4.out;have:=hz5.out;have:=hg8'.out;have:=hbs8'.out;have:=hb8l.out;have:=hb3l.out;have:=hzv10.out;have:=hz_u10.out;have:=hG10.out;have:=hzv11.out;have:=hz_u11.out;have:=hG11.out;have:=hzv12.out;have:=hz_u12.out;have:=hG12.out;have:=hzv13.out;have:=hz_u13.out;have:=hG13.out;omega)
 replace b13:=b13.frm hf3 (fun hS=>by have hS':=hS;have:=hz4.out;have:=hz5.out;have:=hg8'.out;have:=hbs8'.out;have:=hb8l.out;have:=hb3l.out;have:=hzv10.out;have:=hz_u10.out;have:=hG10.out;have:=hzv11.out;have:=hz_u11.out;have:=hG11.out;have:=hzv12.out;have:=hz_u12.out;have:=hG12.out;have:=hzv13.out;have:=hz_u13.out;have:=hG13.out;omega)
 clear hf3
 have hk0:¬ ((((1+e10*3+e11*3+cntA p:Nat):Int))<0):=by omega
 have k_b13:=b13.cell
 have k_b8:=b8.cell
 go_upto_region 99 with fail
 refine (eqCertificate_same own13.reads r8).mono ?_
 rintro e y4 ⟨rfl,hx_y4⟩
 clear k_b13 k_b8
 replace hw:=hw.trans hx_y4
 replace b1:=b1.ext hx_y4
 replace b2:=b2.ext hx_y4
 replace b3:=b3.ext hx_y4
 replace r8:=r8.ext hx_y4
 replace b8:=b8.ext hx_y4
 replace own13:=own13.ext hx_y4
 replace own13h:=own13h.ext hx_y4
 replace b13:=b13.ext hx_y4
 clear hx_y4
 have k_b13:=b13.cell
 have hk13:1+cntA q≤4611686018427387904:=by omega
 go_upto_region 99 with fail
 refine (markCertificate_any (k:=1) own13h hk13).mono ?_
 rintro e wm4 ⟨rfl,own14,hf4⟩
 clear k_b13
 clear own13 own13h
 replace hw:=hw.frm hf4 (fun k hk hS=>by have hS':=hS;have:=hz4.out;have:=hz5.out;have:=hg8'.out;have:=hbs8'.out;have:=hb8l.out;have:=hb3l.out;have:=hzv10.out;have:=hz_u10.out;have:=hG10.out;have:=hzv11.out;have:=hz_u11.out;have:=hG11.out;have:=hzv12.out;have:=hz_u12.out;have:=hG12.out;have:=hzv13.out;have:=hz_u13.out;have:=hG13.out;omega)
 replace b1:=b1.frm hf4 (fun hS=>by have hS':=hS;have:=hz4.out;have:=hz5.out;have:=hg8'.out;have:=hbs8'.out;have:=hb8l.out;have:=hb3l.out;have:=hzv10.out;have:=hz_u10.out;have:=hG10.out;have:=hzv11.out;have:=hz_u11.out;have:=hG11.out;have:=hzv12.out;have:=hz_u12.out;have:=hG12.out;have:=hzv13.out;have:=hz_u13.out;have:=hG13.out;omega)
 replace b2:=b2.frm hf4 (fun hS=>by have hS':=hS;have:=hz4.out;have:=hz5.out;have:=hg8'.out;have:=hbs8'.out;have:=hb8l.out;have:=hb3l.out;have:=hzv10.out;have:=hz_u10.out;have:=hG10.out;have:=hzv11.out;have:=hz_u11.out;have:=hG11.out;have:=hzv12.out;have:=hz_u12.out;have:=hG12.out;have:=hzv13.out;have:=hz_u13.out;have:=hG13.out;omega)
 replace b3:=b3.frm hf4 (fun hS=>by have hS':=hS;have:=hz4.out;have:=hz5.out;have:=hg8'.out;have:=hbs8'.out;have:=hb8l.out;have:=hb3l.out;have:=hzv10.out;have:=hz_u10.out;have:=hG10.out;have:=hzv11.out;have:=hz_u11.out;have:=hG11.out;have:=hzv12.out;have:=hz_u12.out;have:=hG12.out;have:=hzv13.out;have:=hz_u13.out;have:=hG13.out;omega)
 replace r8:=r8.frm hf4 (fun k h1 h2 hS=>by have hS':=hS;have:=hz4.out;have:=hz5.out;have:=hg8'.out;have:=hbs8'.out;have:=hb8l.out;have:=hb3l.out;have:=hzv10.out;have:=hz_u10.out;have:=hG10.out;have:=hzv11.out;have:=hz_u11.out;have:=hG11.out;have:=hzv12.out;have:=hz_u12.out;have:=hG12.out;have:=hzv13.out;have:=hz_u13.out;have:=hG13.out;omega)
 replace b8:=b8.frm hf4 (fun hS=>by have hS':=hS;have:=hz4.out;have:=hz5.out;have:=hg8'.out;have:=hbs8'.out;have:=hb8l.out;have:=hb3l.out;have:=hzv10.out;have:=hz_u10.out;have:=hG10.out;have:=hzv11.out;have:=hz_u11.out;have:=hG11.out;have:=hzv12.out;have:=hz_u12.out;have:=hG12.out;have:=hzv13.out;have:=hz_u13.out;have:=hG13.out;omega)
 replace b13:=b13.frm hf4 (fun hS=>by have hS':=hS;have:=hz4.out;have:=hz5.out;have:=hg8'.out;have:=hbs8'.out;have:=hb8l.out;have:=hb3l.out;have:=hzv10.out;have:=hz_u10.out;have:=hG10.out;have:=hzv11.out;have:=hz_u11.out;have:=hG11.out;have:=hzv12.out;have:=hz_u12.out;have:=hG12.out;have:=hzv13.out;have:=hz_u13.out;have:=hG13.out;omega)
 clear hf4
 have r14:=own14.own.reads
 clear own14
 have k_b13:=b13.cell
 go_upto_region 99 with fail
 refine (heldCertificate_any r14 hk13).mono ?_
 rintro e wm5 ⟨rfl,hx5⟩
 clear k_b13
 replace hw:=hw.trans hx5
 replace b1:=b1.ext hx5
 replace b2:=b2.ext hx5
 replace b3:=b3.ext hx5
 replace r8:=r8.ext hx5
 replace b8:=b8.ext hx5
 replace b13:=b13.ext hx5
 replace r14:=r14.ext hx5
 clear hx5
 have hk1:¬ ((((1+cntA q:Nat):Int))<0):=by omega
 go_upto_region 38 with fail
 have HB:=za (fun W (hW:Ext wm5 W)=>And.intro (b1.ext hW) (And.intro (b2.ext hW) (b3.ext hW)))
 go_cut [18,19] (fun va vc wx=>∃ (G:Nat) (D:Option Addr) (j f:Nat) (D':Option Addr) (j' f' base:Nat),va=.pointer (some ⟨G,0,none⟩)∧vc=.bool vb∧wm5.heap.size≤G∧Blk wx G 33 #[.bool hX,.int .i64 q.al,.slice D j f,.slice D' j' f',.string sX]∧zac wx base D j f D' j' f' q∧wm5.heap.size≤base∧Ext wm5 wx)
 case first =>
  have k1:∀ W,Ext wm5 W→∀ j,W.cell? ⟨w.heap.size,j,none⟩=#[Value.int .i64 s.al,.int .i64 s.st,.slice A n c][j]?:=fun W hW=>((HB.out W hW).1).cell
  have k2:∀ W,Ext wm5 W→∀ j,W.cell? ⟨w.heap.size+1,j,none⟩=#[Value.int .i64 t.al,.int .i64 t.st,.slice C k c2][j]?:=fun W hW=>((HB.out W hW).2.1).cell
  have k3:∀ W,Ext wm5 W→∀ j,W.cell? ⟨w.heap.size+1+1,j,none⟩=#[Value.int .i64 p.al,.slice B m1 d1,.slice B' m1' d1'][j]?:=fun W hW=>((HB.out W hW).2.2).cell
  have hww:=Ext.refl wm5
  refine uR (fun X=>Ext wm5 X) [5,6,11] (zu.app [0,2,4] (zu.two 1 (zu.two 3 (zu.two 5 (zu.two 6 (zu.of [7,8,9,10,11,12]) 10 (zu.of [6,7,8,9,11,12])) 10 (zu.of [5,6,7,8,9,11,12])) 10 (zu.of [3,5,6,7,8,9,11,12])) 10 (zu.of [1,3,5,6,7,8,9,11,12]))) ?_
  refine uQ ?_
  have hxd:Ext wm5 wm5.drew:=(Ext.refl _).drew
  generalize wm5.drew=wd at *
  refine zm (fun K hK=>?_) (fun K hK=>?_)
  ·go_simp
   refine (toSystem_any (HS.out _ (hw.trans hxd)) z1).mono ?_
   rintro e wb1 ⟨E1,e1,k1,rfl,ow1,hxb2⟩
   have hb3:=hxd.trans hxb2
   refine hK.out _ _ hb3 ?_
   refine pT ?_
   refine zm (fun K hK=>?_) (fun K hK=>?_)
   ·go_simp
    refine (toSystem_any (HS'.out _ (hw.trans hb3)) z2).mono ?_
    rintro e wb4 ⟨E2,e2,k2,rfl,ow2,hxb5⟩
    have hb6:=hb3.trans hxb5
    replace ow1:=ow1.ext hxb5
    refine hK.out _ _ hb6 ?_
    refine pT ?_
    refine zm (fun K hK=>?_) (fun K hK=>?_)
    ·go_simp
     refine (toAutomaton_any _ _ _ _ _ _ _ _ _ _ (HP.out _ (hw.trans hb6)) z3).mono ?_
     rintro e wb7 ⟨E3,e3,k3,E3',e3',k3',rfl,ow3,hxb8⟩
     have hb9:=hb6.trans hxb8
     replace ow1:=ow1.ext hxb8
     replace ow2:=ow2.ext hxb8
     refine hK.out _ _ hb9 ?_
     refine pT ?_
     refine zm (fun K hK=>?_) (fun K hK=>?_)
     ·go_simp
      refine (HI.out _ _ _ _ _ _ _ _ _ _ _ _ _ _ _ _ _ _ _ ow1.reads ow2.reads ow3.reads (hw.trans hb9)).mono ?_
      rintro e wb10 ⟨D,j,f,D',j',f',rfl,ow6,hxb11⟩
      have hb12:=hb9.trans hxb11
      replace ow1:=ow1.ext hxb11
      replace ow2:=ow2.ext hxb11
      replace ow3:=ow3.ext hxb11
      have hcs:=hb9.size
      refine hK.out _ _ hb12 ?_
      refine pT ?_
      refine uQ ?_
      refine ze fun K hK=>?_;go_simp
      have hxa:=(Ext.refl wb10).alloc (.cells #[.bool false,.int .i64 0,.slice none 0 0,.slice none 0 0,.string ⟨#[]⟩] 33)
      have bG:=Blk.new wb10 33 #[.bool false,.int .i64 0,.slice none 0 0,.slice none 0 0,.string ⟨#[]⟩]
      have hb14:=hb12.trans hxa
      have hGs:=hb12.size
      replace ow1:=ow1.ext hxa
      replace ow2:=ow2.ext hxa
      replace ow3:=ow3.ext hxa
      replace ow6:=ow6.ext hxa
      refine hK.out _ _ hb14 ?_
      clear hxa
      generalize wb10.alloc (.cells #[.bool false,.int .i64 0,.slice none 0 0,.slice none 0 0,.string ⟨#[]⟩] 33)=wb13 at *
      generalize wb10.heap.size=G at *
      refine pT ?_
      have cG:=bG.cell
      have fG:=bG.frozen
      refine zb fun K hK=>?_
      go_simp
      refine hK.out _ _ ?_
      refine uQ ?_
      refine zf ?_
      have hf:=zao wb13 G (.bool hX) (.int .i64 q.al) (.slice D j f) (.slice D' j' f') (.string sX)
      have hb:=zan bG rfl (.bool hX) (.int .i64 q.al) (.slice D j f) (.slice D' j' f') (.string sX)
      have Hf:=za (And.intro hGs (And.intro hb (And.intro (ow6.farT bG hf (by decide)) (And.intro hcs (hb14.frm hf (fun k hk e=>by have e':k=G:=e;omega))))))
      clear hf hb ow6 bG cG fG hb14
      go_wp2_with fail
      go_meet
      exact⟨G,D,j,f,D',j',f',_,rfl,rfl,Hf.out⟩
     ·go_simp
      have hxa:=(Ext.refl wb7).alloc (.cells #[.bool false,.int .i64 0,.slice none 0 0,.slice none 0 0,.string ⟨#[]⟩] 33)
      have bG:=Blk.new wb7 33 #[.bool false,.int .i64 0,.slice none 0 0,.slice none 0 0,.string ⟨#[]⟩]
      have hb16:=hb9.trans hxa
      have hGs:=hb9.size
      replace ow1:=ow1.ext hxa
      replace ow2:=ow2.ext hxa
      replace ow3:=ow3.ext hxa
      refine hK.out _ _ hb16 ?_
      clear hxa
      generalize wb7.alloc (.cells #[.bool false,.int .i64 0,.slice none 0 0,.slice none 0 0,.string ⟨#[]⟩] 33)=wb15 at *
      generalize wb7.heap.size=G at *
      refine pT ?_
      refine zb fun K hK=>?_
      go_simp
      refine (HI.out _ _ _ _ _ _ _ _ _ _ _ _ _ _ _ _ _ _ _ ow1.reads ow2.reads ow3.reads (hw.trans hb16)).mono ?_
      rintro e wb17 ⟨D,j,f,D',j',f',rfl,ow6,hxb18⟩
      have hb19:=hb16.trans hxb18
      replace ow1:=ow1.ext hxb18
      replace ow2:=ow2.ext hxb18
      replace ow3:=ow3.ext hxb18
      replace bG:=bG.ext hxb18
      have hcs:=hb16.size
      refine hK.out _ _ ?_
      refine pT ?_
      refine uQ ?_
      have cG:=bG.cell
      have fG:=bG.frozen
      refine zb fun K hK=>?_
      go_simp
      refine hK.out _ _ ?_
      refine uQ ?_
      refine zf ?_
      have hf:=zao wb17 G (.bool hX) (.int .i64 q.al) (.slice D j f) (.slice D' j' f') (.string sX)
      have hb:=zan bG rfl (.bool hX) (.int .i64 q.al) (.slice D j f) (.slice D' j' f') (.string sX)
      have Hf:=za (And.intro hGs (And.intro hb (And.intro (ow6.farT bG hf (by decide)) (And.intro hcs (hb19.frm hf (fun k hk e=>by have e':k=G:=e;omega))))))
      clear hf hb ow6 bG cG fG hb19
      go_wp2_with fail
      go_meet
      exact⟨G,D,j,f,D',j',f',_,rfl,rfl,Hf.out⟩
    ·go_simp
     have hxa:=(Ext.refl wb4).alloc (.cells #[.bool false,.int .i64 0,.slice none 0 0,.slice none 0 0,.string ⟨#[]⟩] 33)
     have bG:=Blk.new wb4 33 #[.bool false,.int .i64 0,.slice none 0 0,.slice none 0 0,.string ⟨#[]⟩]
     have hb21:=hb6.trans hxa
     have hGs:=hb6.size
     replace ow1:=ow1.ext hxa
     replace ow2:=ow2.ext hxa
     refine hK.out _ _ hb21 ?_
     clear hxa
     generalize wb4.alloc (.cells #[.bool false,.int .i64 0,.slice none 0 0,.slice none 0 0,.string ⟨#[]⟩] 33)=wb20 at *
     generalize wb4.heap.size=G at *
     refine pT ?_
     refine zb fun K hK=>?_
     go_simp
     refine (toAutomaton_any _ _ _ _ _ _ _ _ _ _ (HP.out _ (hw.trans hb21)) z3).mono ?_
     rintro e wb22 ⟨E3,e3,k3,E3',e3',k3',rfl,ow3,hxb23⟩
     have hb24:=hb21.trans hxb23
     replace ow1:=ow1.ext hxb23
     replace ow2:=ow2.ext hxb23
     replace bG:=bG.ext hxb23
     refine hK.out _ _ ?_
     refine pT ?_
     refine zb fun K hK=>?_
     go_simp
     refine (HI.out _ _ _ _ _ _ _ _ _ _ _ _ _ _ _ _ _ _ _ ow1.reads ow2.reads ow3.reads (hw.trans hb24)).mono ?_
     rintro e wb25 ⟨D,j,f,D',j',f',rfl,ow6,hxb26⟩
     have hb27:=hb24.trans hxb26
     replace ow1:=ow1.ext hxb26
     replace ow2:=ow2.ext hxb26
     replace bG:=bG.ext hxb26
     replace ow3:=ow3.ext hxb26
     have hcs:=hb24.size
     refine hK.out _ _ ?_
     refine pT ?_
     refine uQ ?_
     have cG:=bG.cell
     have fG:=bG.frozen
     refine zb fun K hK=>?_
     go_simp
     refine hK.out _ _ ?_
     refine uQ ?_
     refine zf ?_
     have hf:=zao wb25 G (.bool hX) (.int .i64 q.al) (.slice D j f) (.slice D' j' f') (.string sX)
     have hb:=zan bG rfl (.bool hX) (.int .i64 q.al) (.slice D j f) (.slice D' j' f') (.string sX)
     have Hf:=za (And.intro hGs (And.intro hb (And.intro (ow6.farT bG hf (by decide)) (And.intro hcs (hb27.frm hf (fun k hk e=>by have e':k=G:=e;omega))))))
     clear hf hb ow6 bG cG fG hb27
     go_wp2_with fail
     go_meet
     exact⟨G,D,j,f,D',j',f',_,rfl,rfl,Hf.out⟩
   ·go_simp
    have hxa:=(Ext.refl wb1).alloc (.cells #[.bool false,.int .i64 0,.slice none 0 0,.slice none 0 0,.string ⟨#[]⟩] 33)
    have bG:=Blk.new wb1 33 #[.bool false,.int .i64 0,.slice none 0 0,.slice none 0 0,.string ⟨#[]⟩]
    have hb29:=hb3.trans hxa
    have hGs:=hb3.size
    replace ow1:=ow1.ext hxa
    refine hK.out _ _ hb29 ?_
    clear hxa
    generalize wb1.alloc (.cells #[.bool false,.int .i64 0,.slice none 0 0,.slice none 0 0,.string ⟨#[]⟩] 33)=wb28 at *
    generalize wb1.heap.size=G at *
    refine pT ?_
    refine ze fun K hK=>?_;go_simp
    refine (toSystem_any (HS'.out _ (hw.trans hb29)) z2).mono ?_
    rintro e wb30 ⟨E2,e2,k2,rfl,ow2,hxb31⟩
    have hb32:=hb29.trans hxb31
    replace ow1:=ow1.ext hxb31
    replace bG:=bG.ext hxb31
    refine hK.out _ _ hb32 ?_
    refine pT ?_
    refine zb fun K hK=>?_
    go_simp
    refine (toAutomaton_any _ _ _ _ _ _ _ _ _ _ (HP.out _ (hw.trans hb32)) z3).mono ?_
    rintro e wb33 ⟨E3,e3,k3,E3',e3',k3',rfl,ow3,hxb34⟩
    have hb35:=hb32.trans hxb34
    replace ow1:=ow1.ext hxb34
    replace bG:=bG.ext hxb34
    replace ow2:=ow2.ext hxb34
    refine hK.out _ _ ?_
    refine pT ?_
    refine zb fun K hK=>?_
    go_simp
    refine (HI.out _ _ _ _ _ _ _ _ _ _ _ _ _ _ _ _ _ _ _ ow1.reads ow2.reads ow3.reads (hw.trans hb35)).mono ?_
    rintro e wb36 ⟨D,j,f,D',j',f',rfl,ow6,hxb37⟩
    have hb38:=hb35.trans hxb37
    replace ow1:=ow1.ext hxb37
    replace bG:=bG.ext hxb37
    replace ow2:=ow2.ext hxb37
    replace ow3:=ow3.ext hxb37
    have hcs:=hb35.size
    refine hK.out _ _ ?_
    refine pT ?_
    refine uQ ?_
    have cG:=bG.cell
    have fG:=bG.frozen
    refine zb fun K hK=>?_
    go_simp
    refine hK.out _ _ ?_
    refine uQ ?_
    refine zf ?_
    have hf:=zao wb36 G (.bool hX) (.int .i64 q.al) (.slice D j f) (.slice D' j' f') (.string sX)
    have hb:=zan bG rfl (.bool hX) (.int .i64 q.al) (.slice D j f) (.slice D' j' f') (.string sX)
    have Hf:=za (And.intro hGs (And.intro hb (And.intro (ow6.farT bG hf (by decide)) (And.intro hcs (hb38.frm hf (fun k hk e=>by have e':k=G:=e;omega))))))
    clear hf hb ow6 bG cG fG hb38
    go_wp2_with fail
    go_meet
    exact⟨G,D,j,f,D',j',f',_,rfl,rfl,Hf.out⟩
  ·go_simp
   have hxa:=(Ext.refl wd).alloc (.cells #[.bool false,.int .i64 0,.slice none 0 0,.slice none 0 0,.string ⟨#[]⟩] 33)
   have bG:=Blk.new wd 33 #[.bool false,.int .i64 0,.slice none 0 0,.slice none 0 0,.string ⟨#[]⟩]
   have hb40:=hxd.trans hxa
   have hGs:=hxd.size
   refine hK.out _ _ hb40 ?_
   clear hxa
   generalize wd.alloc (.cells #[.bool false,.int .i64 0,.slice none 0 0,.slice none 0 0,.string ⟨#[]⟩] 33)=wb39 at *
   generalize wd.heap.size=G at *
   refine pT ?_
   refine ze fun K hK=>?_;go_simp
   refine (toSystem_any (HS.out _ (hw.trans hb40)) z1).mono ?_
   rintro e wb41 ⟨E1,e1,k1,rfl,ow1,hxb42⟩
   have hb43:=hb40.trans hxb42
   replace bG:=bG.ext hxb42
   refine hK.out _ _ hb43 ?_
   refine pT ?_
   refine ze fun K hK=>?_;go_simp
   refine (toSystem_any (HS'.out _ (hw.trans hb43)) z2).mono ?_
   rintro e wb44 ⟨E2,e2,k2,rfl,ow2,hxb45⟩
   have hb46:=hb43.trans hxb45
   replace bG:=bG.ext hxb45
   replace ow1:=ow1.ext hxb45
   refine hK.out _ _ hb46 ?_
   refine pT ?_
   refine zb fun K hK=>?_
   go_simp
   refine (toAutomaton_any _ _ _ _ _ _ _ _ _ _ (HP.out _ (hw.trans hb46)) z3).mono ?_
   rintro e wb47 ⟨E3,e3,k3,E3',e3',k3',rfl,ow3,hxb48⟩
   have hb49:=hb46.trans hxb48
   replace bG:=bG.ext hxb48
   replace ow1:=ow1.ext hxb48
   replace ow2:=ow2.ext hxb48
   refine hK.out _ _ ?_
   refine pT ?_
   refine zb fun K hK=>?_
   go_simp
   refine (HI.out _ _ _ _ _ _ _ _ _ _ _ _ _ _ _ _ _ _ _ ow1.reads ow2.reads ow3.reads (hw.trans hb49)).mono ?_
   rintro e wb50 ⟨D,j,f,D',j',f',rfl,ow6,hxb51⟩
   have hb52:=hb49.trans hxb51
   replace bG:=bG.ext hxb51
   replace ow1:=ow1.ext hxb51
   replace ow2:=ow2.ext hxb51
   replace ow3:=ow3.ext hxb51
   have hcs:=hb49.size
   refine hK.out _ _ ?_
   refine pT ?_
   refine uQ ?_
   have cG:=bG.cell
   have fG:=bG.frozen
   refine zb fun K hK=>?_
   go_simp
   refine hK.out _ _ ?_
   refine uQ ?_
   refine zf ?_
   have hf:=zao wb50 G (.bool hX) (.int .i64 q.al) (.slice D j f) (.slice D' j' f') (.string sX)
   have hb:=zan bG rfl (.bool hX) (.int .i64 q.al) (.slice D j f) (.slice D' j' f') (.string sX)
   have Hf:=za (And.intro hGs (And.intro hb (And.intro (ow6.farT bG hf (by decide)) (And.intro hcs (hb52.frm hf (fun k hk e=>by have e':k=G:=e;omega))))))
   clear hf hb ow6 bG cG fG hb52
   go_wp2_with fail
   go_meet
   exact⟨G,D,j,f,D',j',f',_,rfl,rfl,Hf.out⟩
 case rest =>
 obtain⟨G18,D18,j18,f18,D18',j18',f18',base18,rfl,rfl,hg18,b18,own18,hbs18,hx6⟩:=hcut
 obtain⟨wm6,hm6⟩:∃ wm6,wm6=wc:=⟨_,rfl⟩
 subst hm6
 have r18:=own18.reads
 clear own18 HB hg18 hbs18
 replace hw:=hw.trans hx6
 replace b1:=b1.ext hx6
 replace b2:=b2.ext hx6
 replace b3:=b3.ext hx6
 replace r8:=r8.ext hx6
 replace b8:=b8.ext hx6
 replace b13:=b13.ext hx6
 replace r14:=r14.ext hx6
 clear hx6
 have k_b18:=b18.cell
 have k_b8:=b8.cell
 go_upto_region 99 with fail
 refine (eqCertificate_same r18 r8).mono ?_
 rintro e wm7 ⟨rfl,hx_wm7⟩
 clear k_b18 k_b8
 replace hw:=hw.trans hx_wm7
 replace b1:=b1.ext hx_wm7
 replace b2:=b2.ext hx_wm7
 replace b3:=b3.ext hx_wm7
 replace r8:=r8.ext hx_wm7
 replace b8:=b8.ext hx_wm7
 replace b13:=b13.ext hx_wm7
 replace r14:=r14.ext hx_wm7
 replace b18:=b18.ext hx_wm7
 replace r18:=r18.ext hx_wm7
 clear hx_wm7
 have k_b13:=b13.cell
 go_upto_region 99 with fail
 refine (heldCertificate_any r14 hk13).mono ?_
 rintro e wm8 ⟨rfl,hx8⟩
 go_wp2_with fail
 go_ret
 exact⟨rfl,hw.trans hx8⟩
end
end Go.Proofs.YtcfchopfijalpaaGreatDoor
