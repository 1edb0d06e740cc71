/- The referenc -/
import Derived.Test.YtmjaepibdpfblaaGreatDoorK08
import Derived.Test.YtmjaepibdpfblaaGreatDoorK02
import Derived.Test.YtmjaepibdpfblaaGreatDoorK06
import Derived.OwnWalk
namespace Go.Proofs.YtmjaepibdpfblaaGreatDoor
open Go Go.RowKit
set_option maxHeartbeats 8000000
set_option maxRecDepth 100000
def zcI (s:Sys) (a p:Aut):Bool:=zl s&&(zi a&&zi p)
noncomputable def zbR (s:Sys) (a p:Aut):Bool:=zcI s a p&&vioB [s] a p
noncomputable def zbS (s:Sys) (a p:Aut):ByteArray:=if zcI s a p=true then vioW [s] a p else ByteArray.empty
noncomputable def zen (s:Sys) (a p:Aut):Bool:=zcI s a p&&!vioB [s] a p
def zdx (ss:List Sys) (p:Aut):Bool:=zE ss&&zi p
noncomputable def zce (ss:List Sys) (p:Aut):Bool:=zdx ss p&&vioB ss free p
noncomputable def zaU (ss:List Sys) (p:Aut):ByteArray:=if zdx ss p=true then vioW ss free p else ByteArray.empty
noncomputable def zcT (ss:List Sys) (p:Aut):Bool:=zdx ss p&&!vioB ss free p
theorem zfH (s:Sys) (a p:Aut):zen s a p=(zcI s a p&&!zbR s a p):=by unfold zen zbR;cases zcI s a p<;>simp
theorem zgj (ss:List Sys) (p:Aut):zcT ss p=(zdx ss p&&!zce ss p):=by unfold zcT zce;cases zdx ss p<;>simp
section
variable {lo hi n c:Nat} {A:Option Addr} {s:Sys} {lo1 hi1 m1 d1 m1' d1':Nat} {B B':Option Addr} {a:Aut} {lo2 hi2 m2 d2 m2' d2':Nat} {C C':Option Addr} {p:Aut} {w:World}
theorem zfF (h:zN w lo hi A n s)(ha:zG w lo1 hi1 B m1 B' m1' a)(hp:zG w lo2 hi2 C m2 C' m2' p) :
  Calls Tryz.prog 140 #[.agg #[.int .i64 s.al,.int .i64 s.st,.slice A n c],.agg #[.int .i64 a.al,.slice B m1 d1,.slice B' m1' d1'],.agg #[.int .i64 p.al,.slice C m2 d2,.slice C' m2' d2']] w fun e w'=>e=.returned (.bool (zcI s a p))∧Ext w w':=by
 have HS:=za (fun W (hW:Ext w W)=>zai (c:=c) (h.ext hW))
 have HA:=za (fun W (hW:Ext w W)=>zJ _ _ _ _ d1 _ _ d1' _ _ (ha.ext hW))
 have HP:=za (fun W (hW:Ext w W)=>zJ _ _ _ _ d2 _ _ d2' _ _ (hp.ext hW))
 have hr:=za (show zcI s a p=(zl s&&(zi a&&zi p)) from rfl)
 clear h ha hp
 have hw1:Ext w (((w.alloc (.cells #[.int .i64 s.al,.int .i64 s.st,.slice A n c] 38)).alloc (.cells #[.int .i64 a.al,.slice B m1 d1,.slice B' m1' d1'] 31)).alloc (.cells #[.int .i64 p.al,.slice C m2 d2,.slice C' m2' d2'] 31)):=(((Ext.refl w).alloc _).alloc _).alloc _
 obtain⟨b1,b2,b3⟩:=zO (Ext.refl (((w.alloc (.cells #[.int .i64 s.al,.int .i64 s.st,.slice A n c] 38)).alloc (.cells #[.int .i64 a.al,.slice B m1 d1,.slice B' m1' d1'] 31)).alloc (.cells #[.int .i64 p.al,.slice C m2 d2,.slice C' m2' d2'] 31)))
 cases h1:zl s<;>cases h2:zi a<;>cases h3:zi p
 all_goals
  have H1:=za h1
  have H2:=za h2
  have H3:=za h3
  clear h1 h2 h3
  go_enter Tryz.func140,Tryz.ntmps140
  go_upto_region 1 with fail
  generalize ((w.alloc (.cells #[.int .i64 s.al,.int .i64 s.st,.slice A n c] 38)).alloc (.cells #[.int .i64 a.al,.slice B m1 d1,.slice B' m1' d1'] 31)).alloc (.cells #[.int .i64 p.al,.slice C m2 d2,.slice C' m2' d2'] 31)=w1 at *
  have c1:=b1.cell
  go_wp2_with (first
   |(go_at_call 185;with_reducible refine (HS.out _ hw1).mono ?_;rw [H1.out];rintro e w2 ⟨rfl,hx2⟩;have hw2:=hw1.trans hx2;have c2:=(b2.ext hx2).cell)
   |(go_at_call 186;with_reducible refine (HA.out _ hw2).mono ?_;rw [H2.out];rintro e w3 ⟨rfl,hx3⟩;have hw3:=hw2.trans hx3;have c3:=(b3.ext (hx2.trans hx3)).cell)
   |(go_at_call 186;with_reducible refine (HP.out _ hw3).mono ?_;rw [H3.out];rintro e w4 ⟨rfl,hx4⟩;have hw4:=hw3.trans hx4))
  go_ret
  exact⟨zk (by rw [hr.out,H1.out,H2.out,H3.out];rfl),by first|exact hw4|exact hw3|exact hw2⟩
theorem zcy (h:zN w lo hi A n s)(ha:zG w lo1 hi1 B m1 B' m1' a)(hp:zG w lo2 hi2 C m2 C' m2' p) :
  Calls Tryz.prog 74 #[.agg #[.int .i64 s.al,.int .i64 s.st,.slice A n c],.agg #[.int .i64 a.al,.slice B m1 d1,.slice B' m1' d1'],.agg #[.int .i64 p.al,.slice C m2 d2,.slice C' m2' d2']] w fun e w'=>e=.returned (.tuple #[.string (zbS s a p),.bool (zbR s a p)])∧Ext w w':=by
 have H8:=za (fun W (hW:Ext w W)=>zfF (c:=c) (d1:=d1) (d1':=d1') (d2:=d2) (d2':=d2') (h.ext hW) (ha.ext hW) (hp.ext hW))
 have HS:=za (fun W (hW:Ext w W)=>h.ext hW)
 have HA:=za (fun W (hW:Ext w W)=>ha.ext hW)
 have HP:=za (fun W (hW:Ext w W)=>hp.ext hW)
 clear h ha hp
 have hw1:Ext w (((w.alloc (.cells #[.int .i64 s.al,.int .i64 s.st,.slice A n c] 38)).alloc (.cells #[.int .i64 a.al,.slice B m1 d1,.slice B' m1' d1'] 31)).alloc (.cells #[.int .i64 p.al,.slice C m2 d2,.slice C' m2' d2'] 31)):=(((Ext.refl w).alloc _).alloc _).alloc _
 obtain⟨b1,b2,b3⟩:=zO (Ext.refl (((w.alloc (.cells #[.int .i64 s.al,.int .i64 s.st,.slice A n c] 38)).alloc (.cells #[.int .i64 a.al,.slice B m1 d1,.slice B' m1' d1'] 31)).alloc (.cells #[.int .i64 p.al,.slice C m2 d2,.slice C' m2' d2'] 31)))
 cases hT:zcI s a p
 ·have HT:=za hT
  have hr:=za (show zbS s a p=ByteArray.empty∧zbR s a p=false by unfold zbS zbR;rw [hT];exact⟨rfl,rfl⟩)
  clear hT
  go_enter Tryz.func74,Tryz.ntmps74
  go_upto_region 1 with fail
  generalize ((w.alloc (.cells #[.int .i64 s.al,.int .i64 s.st,.slice A n c] 38)).alloc (.cells #[.int .i64 a.al,.slice B m1 d1,.slice B' m1' d1'] 31)).alloc (.cells #[.int .i64 p.al,.slice C m2 d2,.slice C' m2' d2'] 31)=w1 at *
  have c1:=b1.cell
  have c2:=b2.cell
  have c3:=b3.cell
  go_wp2_with (go_at_call 140;refine (H8.out _ hw1).mono ?_;rw [HT.out];rintro e w2 ⟨rfl,hx2⟩)
  go_ret2
  exact⟨by rw [hr.out.1,hr.out.2];rfl,hw1.trans hx2⟩
 ·have hv:zl s=true∧zi a=true∧zi p=true:=by
   unfold zcI at hT
   simp only [Bool.and_eq_true] at hT
   exact hT
  obtain⟨v1,v2,v3⟩:=hv
  have HT:=za hT
  have hr:=za (show zbS s a p=vioW [s] a p∧zbR s a p=vioB [s] a p by unfold zbS zbR;rw [hT];exact⟨rfl,by simp⟩)
  have hal:=(zj v2).1
  have hsl:=zP v1
  obtain⟨sl,hse⟩:∃ al:Nat,Hid (s.al=al):=⟨s.al.toNat,by unfold Hid;omega⟩
  obtain⟨al,hae⟩:∃ al:Nat,Hid (a.al=al):=⟨a.al.toNat,by unfold Hid;omega⟩
  have hsl6:sl≤63:=by have:=hse.out;omega
  have hal6:al≤63:=by have:=hae.out;omega
  have hor:bits .or .i64 (sl:Int) (al:Int)=((sl|||al:Nat):Int):=zbG (by unfold Sm;omega) (by unfold Sm;omega)
  have hLe:=za (show (sl|||al)=zS [s]|||a.al.toNat by
   have h1:=hse.out;have h2:=hae.out
   rw [h2,Int.toNat_natCast]
   simp [zS,h1])
  have hap:=za (show zE [s]=true by simp [zE,v1])
  have V2:=za v2
  have V3:=za v3
  clear hT hal hsl v1 v2 v3
  go_enter Tryz.func74,Tryz.ntmps74
  go_upto_region 1 with fail
  generalize ((w.alloc (.cells #[.int .i64 s.al,.int .i64 s.st,.slice A n c] 38)).alloc (.cells #[.int .i64 a.al,.slice B m1 d1,.slice B' m1' d1'] 31)).alloc (.cells #[.int .i64 p.al,.slice C m2 d2,.slice C' m2' d2'] 31)=w1 at *
  have c1:=b1.cell
  have c2:=b2.cell
  have c3:=b3.cell
  go_upto_region 3 with (go_at_call 140;refine (H8.out _ hw1).mono ?_;rw [HT.out];rintro e w2 ⟨rfl,hx2⟩)
  clear c1 c2 c3
  replace b1:=b1.ext hx2
  replace b2:=b2.ext hx2
  replace b3:=b3.ext hx2
  have hw2:=hw1.trans hx2
  clear hw1 hx2
  have e1:=Blk.new w2 38 #[.int .i64 s.al,.int .i64 s.st,.slice A n c]
  have f1:=(Ext.refl w2).alloc (.cells #[.int .i64 s.al,.int .i64 s.st,.slice A n c] 38)
  have b1':=b1
  have b2':=b2.ext f1
  have b3':=b3.ext f1
  have e2:=Blk.new (w2.alloc (.cells #[.int .i64 s.al,.int .i64 s.st,.slice A n c] 38)) 31 #[.int .i64 a.al,.slice B m1 d1,.slice B' m1' d1',.int .i64 p.al,.slice C m2 d2,.slice C' m2' d2']
  have f2:=(Ext.refl (w2.alloc (.cells #[.int .i64 s.al,.int .i64 s.st,.slice A n c] 38))).alloc (.cells #[.int .i64 a.al,.slice B m1 d1,.slice B' m1' d1',.int .i64 p.al,.slice C m2 d2,.slice C' m2' d2'] 31)
  have e3:=Blk.new ((w2.alloc (.cells #[.int .i64 s.al,.int .i64 s.st,.slice A n c] 38)).alloc (.cells #[.int .i64 a.al,.slice B m1 d1,.slice B' m1' d1',.int .i64 p.al,.slice C m2 d2,.slice C' m2' d2'] 31)) 3 #[.int .i64 0,.int .i64 0,.int .i64 0]
  have f3:=(Ext.refl ((w2.alloc (.cells #[.int .i64 s.al,.int .i64 s.st,.slice A n c] 38)).alloc (.cells #[.int .i64 a.al,.slice B m1 d1,.slice B' m1' d1',.int .i64 p.al,.slice C m2 d2,.slice C' m2' d2'] 31))).alloc (.cells #[.int .i64 0,.int .i64 0,.int .i64 0] 3)
  have b1'':=b1.ext (f1.trans (f2.trans f3))
  have b2'':=b2.ext (f1.trans (f2.trans f3))
  have k1:=b1.cell
  have k2:=b2'.cell
  have k3:=b3'.cell
  have k4:=(b1''.cell 0).trans (show #[Value.int .i64 s.al,.int .i64 s.st,.slice A n c][0]?=some (Value.int .i64 (sl:Nat)) by rw [hse.out];rfl)
  have k5:=(b2''.cell 0).trans (show #[Value.int .i64 a.al,.slice B m1 d1,.slice B' m1' d1'][0]?=some (Value.int .i64 (al:Nat)) by rw [hae.out];rfl)
  have hw3:=hw2.trans (f1.trans (f2.trans f3))
  have hnet:∃ lo hi,zeR (((w2.alloc (.cells #[.int .i64 s.al,.int .i64 s.st,.slice A n c] 38)).alloc (.cells #[.int .i64 a.al,.slice B m1 d1,.slice B' m1' d1',.int .i64 p.al,.slice C m2 d2,.slice C' m2' d2'] 31)).alloc (.cells #[.int .i64 0,.int .i64 0,.int .i64 0] 3)) (some ⟨w2.heap.size,0,none⟩) 1 (some ⟨w2.heap.size+1,0,none⟩) 2 [s] [a,p]∧Lst zbp (((w2.alloc (.cells #[.int .i64 s.al,.int .i64 s.st,.slice A n c] 38)).alloc (.cells #[.int .i64 a.al,.slice B m1 d1,.slice B' m1' d1',.int .i64 p.al,.slice C m2 d2,.slice C' m2' d2'] 31)).alloc (.cells #[.int .i64 0,.int .i64 0,.int .i64 0] 3)) lo hi (some ⟨w2.heap.size+1+1,0,none⟩) (List.replicate 3 0):=by
   have e2':=e2.ext f3
   have e3':=e3
   simp only [World.size_alloc] at e2' e3'
   exact⟨_,_,⟨sl_one (e1.ext (f2.trans f3)) (HS.out _ hw3),al_two e2' (HA.out _ hw3) (HP.out _ hw3)⟩,zeros_blk (n:=3) e3' rfl (by omega)⟩
  have Hnet:=za hnet
  clear hnet e1 e2 e3 f1 f2 f3 b1 b2 b3 b1' b2' b3' b1'' b2'' hw2
  go_wp2_with (go_at_call 141;obtain⟨l1,h1,hn1,hn2⟩:=Hnet.out;refine (first_under (pn:=1) hn1 hap.out V2.out V3.out hn2 hLe.out).mono ?_;rintro e w4 ⟨rfl,hx4⟩)
  go_ret2
  exact⟨by rw [hr.out.1,hr.out.2];rfl,hw3.trans hx4⟩
end
theorem wp_make {P:Program} (w:World) {o:Oper} {a:Act} {K:Act→World→Prop} {Q:Exit→Act→World→Prop} (l c:Operand) (t:TypeId)(ho:o.op=.makeSlice t l c)
  (e:TypeId) (z:Value) (size bytes:Nat) (ht:P.underlying t=some (.slice e)) (hi:(P.info? e).map (fun i=>(i.zero,i.size,i.bytes))=some (some z,size,bytes))
  (kl kc:IntKind) (n:Nat) (hl:a.eval l=.int kl (n:Int)) (hc:a.eval c=.int kc (n:Int)) (hbytes:n*bytes≤140737488355328) (h63:n≤maxLen)
  (h:∀ w',w'.ownsRow w.heap.size e size (.slice (some ⟨w.heap.size,0,none⟩) n n) n (madeCells z.cells (n*size)).toList→Ext w w'→K (a.put o.dst (.slice (some ⟨w.heap.size,0,none⟩) n n)) w') :
  o.wp P a w K Q:=by
 obtain⟨i,hi0,hz0,hz1,hz2⟩:=info_parts hi
 obtain⟨w',hrun,r1,r2⟩:=run_make_full (P:=P) w w.heap.size t e i z size ht hi0 hz0 hz1 kl kc n (by rw [hz2,Nat.mul_comm];omega) h63 (Nat.le_refl _)
 unfold Oper.wp
 simp [execOp,ho,hl,hc,hrun,Result.andThen]
 exact h w' r1 ((Ext.refl _).grown r2 (by simp))
section
variable {lo hi n c:Nat} {A:Option Addr} {s:Sys} {lo1 hi1 m1 d1 m1' d1':Nat} {B B':Option Addr} {a:Aut} {lo2 hi2 m2 d2 m2' d2':Nat} {C C':Option Addr} {p:Aut} {w:World}
theorem zgz (h:zN w lo hi A n s)(ha:zG w lo1 hi1 B m1 B' m1' a)(hp:zG w lo2 hi2 C m2 C' m2' p) :
  Calls Tryz.prog 190 #[.agg #[.int .i64 s.al,.int .i64 s.st,.slice A n c],.agg #[.int .i64 a.al,.slice B m1 d1,.slice B' m1' d1'],.agg #[.int .i64 p.al,.slice C m2 d2,.slice C' m2' d2']] w fun e w'=>e=.returned (.bool (zen s a p))∧Ext w w':=by
 have H8:=za (fun W (hW:Ext w W)=>zfF (c:=c) (d1:=d1) (d1':=d1') (d2:=d2) (d2':=d2') (h.ext hW) (ha.ext hW) (hp.ext hW))
 have HV:=za (fun W (hW:Ext w W)=>zcy (c:=c) (d1:=d1) (d1':=d1') (d2:=d2) (d2':=d2') (h.ext hW) (ha.ext hW) (hp.ext hW))
 have hr:=za (zfH s a p)
 clear h ha hp
 generalize zbR s a p=ub at *
 generalize zbS s a p=uw at *
 have hw1:Ext w (((w.alloc (.cells #[.int .i64 s.al,.int .i64 s.st,.slice A n c] 38)).alloc (.cells #[.int .i64 a.al,.slice B m1 d1,.slice B' m1' d1'] 31)).alloc (.cells #[.int .i64 p.al,.slice C m2 d2,.slice C' m2' d2'] 31)):=(((Ext.refl w).alloc _).alloc _).alloc _
 obtain⟨b1,b2,b3⟩:=zO (Ext.refl (((w.alloc (.cells #[.int .i64 s.al,.int .i64 s.st,.slice A n c] 38)).alloc (.cells #[.int .i64 a.al,.slice B m1 d1,.slice B' m1' d1'] 31)).alloc (.cells #[.int .i64 p.al,.slice C m2 d2,.slice C' m2' d2'] 31)))
 cases hT:zcI s a p<;>cases ub
 all_goals
  have HT:=za hT
  clear hT
  go_enter Tryz.func190,Tryz.ntmps190
  go_upto_region 1 with fail
  generalize ((w.alloc (.cells #[.int .i64 s.al,.int .i64 s.st,.slice A n c] 38)).alloc (.cells #[.int .i64 a.al,.slice B m1 d1,.slice B' m1' d1'] 31)).alloc (.cells #[.int .i64 p.al,.slice C m2 d2,.slice C' m2' d2'] 31)=w1 at *
  have c1:=b1.cell
  have c2:=b2.cell
  have c3:=b3.cell
  go_wp2_with (first
   |(go_at_call 74;refine (HV.out _ hw1).mono ?_;rintro e w2 ⟨rfl,hx2⟩;have hw2:=hw1.trans hx2;have c12:=(b1.ext hx2).cell;have c22:=(b2.ext hx2).cell;have c32:=(b3.ext hx2).cell)
   |(go_at_call 140;refine (H8.out _ hw2).mono ?_;rw [HT.out];rintro e w3 ⟨rfl,hx3⟩;have hw3:=hw2.trans hx3))
  go_ret
  exact⟨zk (by rw [hr.out,HT.out];rfl),hw3⟩
theorem madeZ (n:Nat):(madeCells (Value.int .i64 0).cells (n*1)).toList=zaq (List.replicate n 0):=by
 simp [Value.cells,toList_madeCells_one,zaq]
variable {k:Nat} {ss:List Sys}
theorem zby (h:zey w lo hi A k ss)(hp:zG w lo2 hi2 C m2 C' m2' p) :
  Calls Tryz.prog 151 #[.slice A k c,.agg #[.int .i64 p.al,.slice C m2 d2,.slice C' m2' d2']] w fun e w'=>e=.returned (.tuple #[.string (zaU ss p),.bool (zce ss p)])∧Ext w w':=by
 have HS:=za (fun W (hW:Ext w W)=>h.ext hW)
 have HP:=za (fun W (hW:Ext w W)=>hp.ext hW)
 have hkl:=h.len
 have hkL:=za h.1
 clear h hp
 have hw1:Ext w (w.alloc (.cells #[.int .i64 p.al,.slice C m2 d2,.slice C' m2' d2'] 31)):=(Ext.refl w).alloc _
 have b1:=Blk.new w 31 #[.int .i64 p.al,.slice C m2 d2,.slice C' m2' d2']
 cases hA:zE ss
 ·have hr:=za (show zaU ss p=ByteArray.empty∧zce ss p=false by unfold zaU zce zdx;rw [hA];exact⟨rfl,rfl⟩)
  have hPA:=za (show zaF ss = -1 by unfold zaF;rw [hA];rfl)
  clear hA
  go_enter Tryz.func151,Tryz.ntmps151
  go_upto_region 1 with fail
  generalize w.alloc (.cells #[.int .i64 p.al,.slice C m2 d2,.slice C' m2' d2'] 31)=w1 at *
  go_wp2_with (go_at_call 215;refine (zac (HS.out _ hw1)).mono ?_;rw [hPA.out];rintro e w2 ⟨rfl,hx2⟩)
  go_ret2
  exact⟨by rw [hr.out.1,hr.out.2];rfl,hw1.trans hx2⟩
 ·have hPA:=za (show zaF ss=(zS ss:Int) by unfold zaF;rw [hA];rfl)
  cases hV:zi p
  ·have hr:=za (show zaU ss p=ByteArray.empty∧zce ss p=false by unfold zaU zce zdx;rw [hA,hV];exact⟨rfl,rfl⟩)
   have HV:=za hV
   clear hA hV
   go_enter Tryz.func151,Tryz.ntmps151
   go_upto_region 1 with fail
   generalize w.alloc (.cells #[.int .i64 p.al,.slice C m2 d2,.slice C' m2' d2'] 31)=w1 at *
   go_wp2_with (first
    |(go_at_call 215;refine (zac (HS.out _ hw1)).mono ?_;rw [hPA.out];rintro e w2 ⟨rfl,hx2⟩;have hw2:=hw1.trans hx2;have c2:=(b1.ext hx2).cell)
    |(go_at_call 186;refine (zJ _ _ _ _ _ _ _ _ _ _ (HP.out _ hw2)).mono ?_;rw [HV.out];rintro e w3 ⟨rfl,hx3⟩;have hw3:=hw2.trans hx3))
   go_ret2
   exact⟨by rw [hr.out.1,hr.out.2];rfl,hw3⟩
  ·have hr:=za (show zaU ss p=vioW ss free p∧zce ss p=vioB ss free p by unfold zaU zce zdx;rw [hA,hV];exact⟨rfl,by simp⟩)
   obtain⟨⟨_,hk3⟩,hsv⟩:=zbi hA
   have hk3':k≤3:=by rw [hkL.out];exact hk3
   have hU:=zfn hsv
   have HV:=za hV
   have HA:=za hA
   clear hA hV hsv hk3
   generalize hUe:zS ss=U at *
   have HU:=za hUe
   clear hUe
   go_enter Tryz.func151,Tryz.ntmps151
   go_upto_region 1 with fail
   generalize w.alloc (.cells #[.int .i64 p.al,.slice C m2 d2,.slice C' m2' d2'] 31)=w1 at *
   go_upto_region 4 with (first
    |(go_at_call 215;refine (zac (HS.out _ hw1)).mono ?_;rw [hPA.out];rintro e w2 ⟨rfl,hx2⟩;have hw2:=hw1.trans hx2;have c2:=(b1.ext hx2).cell)
    |(go_at_call 186;refine (zJ _ _ _ _ _ _ _ _ _ _ (HP.out _ hw2)).mono ?_;rw [HV.out];rintro e w3 ⟨rfl,hx3⟩;have hw3:=hw2.trans hx3))
   have b13:=b1.ext (hx2.trans hx3)
   have c3:=b13.cells
   have hww:=Ext.refl w3
   have hk1:IntKind.i64.wrap ((k:Int)+1)=((k+1:Nat):Int):=by rw [← Int.natCast_succ];exact zfW (k+1) (by omega)
   clear c2 b1 b13
   refine uR (fun X=>Ext w3 X) [9] (zw.app [0,1,3,4,5,7] (zw.two 2 (zw.of [6,8,9,10,11,12,13]) 6 (zw.of [2,8,9,10,11,12,13]))) ?_
   refine uQ ?_
   have hx0:Ext w3 w3.drew:=hww.drew
   generalize w3.drew=wd at *
   refine zm rfl rfl rfl rfl (fun K hK=>?_) (fun K hK=>?_)
   ·go_simp
    have e2:=Blk.new wd 31 #[.int .i64 p.al,.slice C m2 d2,.slice C' m2' d2']
    replace hx0:=hx0.alloc (.cells #[.int .i64 p.al,.slice C m2 d2,.slice C' m2' d2'] 31)
    refine hK.out _ _ hx0 ?_
    generalize wd.alloc (.cells #[.int .i64 p.al,.slice C m2 d2,.slice C' m2' d2'] 31)=w4 at *
    generalize wd.heap.size=g4 at *
    refine pT ?_
    refine zd rfl rfl rfl (fun K hK=>?_)
    refine wp_make w4 _ _ 137 rfl 3 _ 1 8 Tryz.underlying137 zY .i64 .i64 (k+1) ?_ ?_ (by omega) (by unfold maxLen;omega) ?_
    ·go_simp
    ·go_simp
    intro w5 ziy hx5
    rw [madeZ] at ziy
    replace hx0:=hx0.trans hx5
    replace e2:=e2.ext hx5
    refine hK.out _ _ hx0 ?_
    refine pT ?_
    refine uQ ?_
    (refine zb rfl rfl rfl rfl (fun K hK=>?_))
    go_simp
    have hw5:=hw3.trans hx0
    refine (zhh (pn:=k) ⟨⟨_,_,HS.out _ hw5⟩,al_one e2 (HP.out _ hw5)⟩ HA.out HV.out (zeros_row ziy) HU.out.symm).mono ?_
    rintro e w6 ⟨rfl,hx6⟩
    have zio:=hw5.trans hx6
    refine hK.out _ _ ?_
    refine pT ?_
    refine uQ ?_
    refine ze ?_
    go_wp2_with fail
    go_ret2
    exact⟨by rw [hr.out.1,hr.out.2];rfl,zio⟩
   ·refine wp_make wd _ _ 137 rfl 3 _ 1 8 Tryz.underlying137 zY .i64 .i64 (k+1) ?_ ?_ (by omega) (by unfold maxLen;omega) ?_
    ·go_simp
    ·go_simp
    intro w5 ziy hx5
    rw [madeZ] at ziy
    replace hx0:=hx0.trans hx5
    refine hK.out _ _ hx0 ?_
    generalize wd.heap.size=g5 at *
    refine pT ?_
    (refine zd rfl rfl rfl (fun K hK=>?_);go_simp)
    have e2:=Blk.new w5 31 #[.int .i64 p.al,.slice C m2 d2,.slice C' m2' d2']
    have hx6:=(Ext.refl w5).alloc (.cells #[.int .i64 p.al,.slice C m2 d2,.slice C' m2' d2'] 31)
    replace hx0:=hx0.trans hx6
    replace ziy:=zh ziy hx6
    refine hK.out _ _ hx0 ?_
    generalize w5.alloc (.cells #[.int .i64 p.al,.slice C m2 d2,.slice C' m2' d2'] 31)=w6 at *
    generalize w5.heap.size=g4 at *
    refine pT ?_
    refine uQ ?_
    (refine zb rfl rfl rfl rfl (fun K hK=>?_))
    go_simp
    have hw5:=hw3.trans hx0
    refine (zhh (pn:=k) ⟨⟨_,_,HS.out _ hw5⟩,al_one e2 (HP.out _ hw5)⟩ HA.out HV.out (zeros_row ziy) HU.out.symm).mono ?_
    rintro e w7 ⟨rfl,hx7⟩
    have zio:=hw5.trans hx7
    refine hK.out _ _ ?_
    refine pT ?_
    refine uQ ?_
    refine ze ?_
    go_wp2_with fail
    go_ret2
    exact⟨by rw [hr.out.1,hr.out.2];rfl,zio⟩
theorem zgW (h:zey w lo hi A k ss)(hp:zG w lo2 hi2 C m2 C' m2' p) :
  Calls Tryz.prog 261 #[.slice A k c,.agg #[.int .i64 p.al,.slice C m2 d2,.slice C' m2' d2']] w fun e w'=>e=.returned (.bool (zcT ss p))∧Ext w w':=by
 have HV:=za (fun W (hW:Ext w W)=>zby (c:=c) (d2:=d2) (d2':=d2') (h.ext hW) (hp.ext hW))
 have HS:=za (fun W (hW:Ext w W)=>h.ext hW)
 have HP:=za (fun W (hW:Ext w W)=>hp.ext hW)
 have hr:=za (show zcT ss p=(zE ss&&zi p&&!zce ss p) from zgj ss p)
 clear h hp
 generalize zce ss p=ub at *
 generalize zaU ss p=uw at *
 have hw1:Ext w (w.alloc (.cells #[.int .i64 p.al,.slice C m2 d2,.slice C' m2' d2'] 31)):=(Ext.refl w).alloc _
 have b1:=Blk.new w 31 #[.int .i64 p.al,.slice C m2 d2,.slice C' m2' d2']
 cases hA:zE ss<;>cases hVv:zi p<;>cases ub
 all_goals
  have HA:=za (show zE ss=_ from hA)
  have hPA:=za (show zaF ss=if zE ss=true then (zS ss:Int) else -1 from rfl)
  rw [hA] at hPA
  have HVv:=za hVv
  clear hA hVv
  simp only [Bool.false_eq_true,if_false,if_true] at hPA
  go_enter Tryz.func261,Tryz.ntmps261
  go_upto_region 1 with fail
  generalize w.alloc (.cells #[.int .i64 p.al,.slice C m2 d2,.slice C' m2' d2'] 31)=w1 at *
  have c1:=b1.cell
  go_wp2_with (first
   |(go_at_call 151;refine (HV.out _ hw1).mono ?_;rintro e w2 ⟨rfl,hx2⟩;have hw2:=hw1.trans hx2)
   |(go_at_call 215;refine (zac (HS.out _ hw2)).mono ?_;rw [hPA.out];rintro e w3 ⟨rfl,hx3⟩;have hw3:=hw2.trans hx3;have c3:=(b1.ext (hx2.trans hx3)).cell)
   |(go_at_call 186;refine (zJ _ _ _ _ _ _ _ _ _ _ (HP.out _ hw3)).mono ?_;rw [HVv.out];rintro e w4 ⟨rfl,hx4⟩;have hw4:=hw3.trans hx4))
  go_ret
  exact⟨zk (by rw [hr.out,HA.out,HVv.out];rfl),by first|exact hw4|exact hw3⟩
theorem zfg (h:zN w lo hi A n s)(hp:zG w lo2 hi2 C m2 C' m2' p) :
  Calls Tryz.prog 191 #[.agg #[.int .i64 s.al,.int .i64 s.st,.slice A n c],.agg #[.int .i64 p.al,.slice C m2 d2,.slice C' m2' d2']] w fun e w'=>e=.returned (.bool (zcT [s] p))∧Ext w w':=by
 have HS:=za (fun W (hW:Ext w W)=>h.ext hW)
 have HP:=za (fun W (hW:Ext w W)=>hp.ext hW)
 clear h hp
 have hw1:Ext w ((w.alloc (.cells #[.int .i64 s.al,.int .i64 s.st,.slice A n c] 38)).alloc (.cells #[.int .i64 p.al,.slice C m2 d2,.slice C' m2' d2'] 31)):=((Ext.refl w).alloc _).alloc _
 obtain⟨b1,b2⟩:=zU (Ext.refl ((w.alloc (.cells #[.int .i64 s.al,.int .i64 s.st,.slice A n c] 38)).alloc (.cells #[.int .i64 p.al,.slice C m2 d2,.slice C' m2' d2'] 31)))
 go_enter Tryz.func191,Tryz.ntmps191
 go_upto_region 1 with fail
 generalize (w.alloc (.cells #[.int .i64 s.al,.int .i64 s.st,.slice A n c] 38)).alloc (.cells #[.int .i64 p.al,.slice C m2 d2,.slice C' m2' d2'] 31)=w1 at *
 have c1:=b1.cell
 have e2:=Blk.new w1 38 #[.int .i64 s.al,.int .i64 s.st,.slice A n c]
 have f2:=(Ext.refl w1).alloc (.cells #[.int .i64 s.al,.int .i64 s.st,.slice A n c] 38)
 have c2:=(b2.ext f2).cell
 have hw2:=hw1.trans f2
 obtain⟨l1,h1,hsl⟩:=sl_one e2 (HS.out _ hw2)
 go_wp2_with (go_at_call 261;refine (zgW hsl (HP.out _ hw2)).mono ?_;rintro e w3 ⟨rfl,hx3⟩)
 go_ret
 exact⟨zk rfl,hw2.trans hx3⟩
end
theorem yK09d1 {P:Prop}(h:P:=by
 have Kh10:=h10.cell 0
 have Zh10:=h10.frozen 0
 (refine zb rfl rfl rfl rfl (fun K hK=>?_))
 go_simp
 have hx2:=hx0.frm (Frm.setCell w23 g10 0 (.slice UA a.next.length uc)) (fun k hk e=>by have:=hGh10;omega)
 have hA2:=hA.set h10 (by decide) (.slice UA a.next.length uc)
 have hP2:=hP.set h10 (by decide) (.slice UA a.next.length uc)
 have h102:Blk (w23.setCell ⟨g10,0,none⟩ (.slice UA a.next.length uc)) g10 177 #[.slice UA a.next.length uc]:=by simpa using h10.set_ 0 (.slice UA a.next.length uc)
 have h112:=h11.far (p:=⟨g10,0,none⟩) (by first|exact hne|exact hne.symm) (.slice UA a.next.length uc)
 refine hK.out _ _ ?_
 refine pT ?_
 clear hA hP h10 h11 Kh10 Zh10 hx0
 generalize w23.setCell ⟨g10,0,none⟩ (.slice UA a.next.length uc)=w24 at *
 have hA:=hA2;have hP:=hP2;have h10:=h102;have h11:=h112;have hx0:=hx2
 clear hA2 hP2 h102 h112 hx2
 have Kh11:=h11.cell 0
 have Zh11:=h11.frozen 0
 (refine zb rfl rfl rfl rfl (fun K hK=>?_))
 go_simp
 have hx2:=hx0.frm (Frm.setCell w24 g11 0 (.slice RA p.next.length rc)) (fun k hk e=>by have:=hGh11;omega)
 have hA2:=hA.set h11 (by decide) (.slice RA p.next.length rc)
 have hP2:=hP.set h11 (by decide) (.slice RA p.next.length rc)
 have h112:Blk (w24.setCell ⟨g11,0,none⟩ (.slice RA p.next.length rc)) g11 177 #[.slice RA p.next.length rc]:=by simpa using h11.set_ 0 (.slice RA p.next.length rc)
 have h102:=h10.far (p:=⟨g11,0,none⟩) (by first|exact hne|exact hne.symm) (.slice RA p.next.length rc)
 refine hK.out _ _ ?_
 refine pT ?_
 clear hA hP h10 h11 Kh11 Zh11 hx0
 generalize w24.setCell ⟨g11,0,none⟩ (.slice RA p.next.length rc)=w25 at *
 have hA:=hA2;have hP:=hP2;have h10:=h102;have h11:=h112;have hx0:=hx2
 clear hA2 hP2 h102 h112 hx2
 refine ze ?_
 go_wp2_with fail
 go_meet
 exact⟨g10,g11,UA,RA,uc,rc,rfl,rfl,hx0,h10,h11,hA,hP⟩
 ):P:=h
theorem yK09c1 {P:Prop}(h:P:=by
 (refine zb rfl rfl rfl rfl (fun K hK=>?_))
 go_simp
 refine (hTP.out _ hx0).mono ?_
 rintro e w23 ⟨RA,rc,rfl,hP,hx1⟩
 replace hx0:=hx0.trans hx1
 replace h10:=h10.ext hx1
 replace h11:=h11.ext hx1
 replace hA:=hA.ext hx1
 clear hx1
 refine hK.out _ _ ?_
 refine pT ?_
 exact yK09d1
 ):P:=h
theorem yK09b1 {P:Prop}(h:P:=by
 (refine zd rfl rfl rfl (fun K hK=>?_);go_simp)
 refine (hTA.out _ hx0).mono ?_
 rintro e w22 ⟨UA,uc,rfl,hA,hx1⟩
 replace hx0:=hx0.trans hx1
 replace h10:=h10.ext hx1
 replace h11:=h11.ext hx1
 clear hx1
 refine hK.out _ _ hx0 ?_
 refine pT ?_
 exact yK09c1
 ):P:=h
theorem yK09c2 {P:Prop}(h:P:=by
 exact yK09d1
 ):P:=h
theorem yK09b2 {P:Prop}(h:P:=by
 (refine zd rfl rfl rfl (fun K hK=>?_);go_simp)
 have hne:=Nat.ne_of_lt h11.lt
 have hGh10:=hx0.size
 have hx1:=(Ext.refl w22).alloc (.cells #[.slice none 0 0] 177)
 replace hx0:=hx0.trans hx1
 replace h11:=h11.ext hx1
 replace hA:=hA.ext hx1
 replace hP:=hP.ext hx1
 clear hx1
 have h10:=Blk.new w22 177 #[.slice none 0 0]
 refine hK.out _ _ hx0 ?_
 refine pT ?_
 generalize w22.alloc (.cells #[.slice none 0 0] 177)=w23 at *
 generalize w22.heap.size=g10 at *
 exact yK09c2
 ):P:=h
theorem yK09b4 {P:Prop}(h:P:=by
 exact yK09c1
 ):P:=h
theorem reads_blk {w:World} {g lo hi:Nat} {t:TypeId} {v:Value}(h:Blk w g t #[v])(h1:lo≤g)(h2:g<hi):Reads w lo hi 1 (some ⟨g,0,none⟩) 1 [v]:=
 ⟨rfl,by omega,fun _=>⟨_,rfl,h1,h2,fun j u hu=>by
  rw [zT,Nat.zero_add,h.cell]
  simpa using hu⟩⟩
theorem yK09a1 {P:Prop}(h:P:=by
 refine zm rfl rfl rfl rfl (fun K hK=>?_) (fun K hK=>?_)
 ·go_simp
  refine (hTA.out _ hx0).mono ?_
  rintro e w21 ⟨UA,uc,rfl,hA,hx1⟩
  replace hx0:=hx0.trans hx1
  replace h11:=h11.ext hx1
  clear hx1
  refine hK.out _ _ hx0 ?_
  refine pT ?_
  refine zm rfl rfl rfl rfl (fun K hK=>?_) (fun K hK=>?_)
  ·go_simp
   refine (hTP.out _ hx0).mono ?_
   rintro e w22 ⟨RA,rc,rfl,hP,hx1⟩
   replace hx0:=hx0.trans hx1
   replace h11:=h11.ext hx1
   replace hA:=hA.ext hx1
   clear hx1
   refine hK.out _ _ hx0 ?_
   refine pT ?_
   exact yK09b2
  ·go_simp
   have hne:=Nat.ne_of_lt h11.lt
   have hGh10:=hx0.size
   have hx1:=(Ext.refl w21).alloc (.cells #[.slice none 0 0] 177)
   replace hx0:=hx0.trans hx1
   replace h11:=h11.ext hx1
   replace hA:=hA.ext hx1
   clear hx1
   have h10:=Blk.new w21 177 #[.slice none 0 0]
   refine hK.out _ _ hx0 ?_
   refine pT ?_
   generalize w21.alloc (.cells #[.slice none 0 0] 177)=w22 at *
   generalize w21.heap.size=g10 at *
   exact yK09b4
 ·go_simp
  have hne:=Nat.ne_of_lt h11.lt
  have hGh10:=hx0.size
  have hx1:=(Ext.refl w20).alloc (.cells #[.slice none 0 0] 177)
  replace hx0:=hx0.trans hx1
  replace h11:=h11.ext hx1
  clear hx1
  have h10:=Blk.new w20 177 #[.slice none 0 0]
  refine hK.out _ _ hx0 ?_
  refine pT ?_
  generalize w20.alloc (.cells #[.slice none 0 0] 177)=w21 at *
  generalize w20.heap.size=g10 at *
  exact yK09b1
 ):P:=h
theorem yK09b3 {P:Prop}(h:P:=by
 (refine zd rfl rfl rfl (fun K hK=>?_);go_simp)
 have hne:=Nat.ne_of_lt h10.lt
 have hGh11:=hx0.size
 have hx1:=(Ext.refl w22).alloc (.cells #[.slice none 0 0] 177)
 replace hx0:=hx0.trans hx1
 replace h10:=h10.ext hx1
 replace hA:=hA.ext hx1
 replace hP:=hP.ext hx1
 clear hx1
 have h11:=Blk.new w22 177 #[.slice none 0 0]
 refine hK.out _ _ hx0 ?_
 refine pT ?_
 generalize w22.alloc (.cells #[.slice none 0 0] 177)=w23 at *
 generalize w22.heap.size=g11 at *
 exact yK09c2
 ):P:=h
theorem yK09a2 {P:Prop}(h:P:=by
 refine zm rfl rfl rfl rfl (fun K hK=>?_) (fun K hK=>?_)
 ·go_simp
  refine (hTA.out _ hx0).mono ?_
  rintro e w21 ⟨UA,uc,rfl,hA,hx1⟩
  replace hx0:=hx0.trans hx1
  replace h10:=h10.ext hx1
  clear hx1
  refine hK.out _ _ hx0 ?_
  refine pT ?_
  refine zm rfl rfl rfl rfl (fun K hK=>?_) (fun K hK=>?_)
  ·go_simp
   refine (hTP.out _ hx0).mono ?_
   rintro e w22 ⟨RA,rc,rfl,hP,hx1⟩
   replace hx0:=hx0.trans hx1
   replace h10:=h10.ext hx1
   replace hA:=hA.ext hx1
   clear hx1
   refine hK.out _ _ hx0 ?_
   refine pT ?_
   exact yK09b3
  ·go_simp
   have hne:=Nat.ne_of_lt h10.lt
   have hGh11:=hx0.size
   have hx1:=(Ext.refl w21).alloc (.cells #[.slice none 0 0] 177)
   replace hx0:=hx0.trans hx1
   replace h10:=h10.ext hx1
   replace hA:=hA.ext hx1
   clear hx1
   have h11:=Blk.new w21 177 #[.slice none 0 0]
   refine hK.out _ _ hx0 ?_
   refine pT ?_
   generalize w21.alloc (.cells #[.slice none 0 0] 177)=w22 at *
   generalize w21.heap.size=g11 at *
   exact yK09b4
 ·go_simp
  have hne:=Nat.ne_of_lt h10.lt
  have hGh11:=hx0.size
  have hx1:=(Ext.refl w20).alloc (.cells #[.slice none 0 0] 177)
  replace hx0:=hx0.trans hx1
  replace h10:=h10.ext hx1
  clear hx1
  have h11:=Blk.new w20 177 #[.slice none 0 0]
  refine hK.out _ _ hx0 ?_
  refine pT ?_
  generalize w20.alloc (.cells #[.slice none 0 0] 177)=w21 at *
  generalize w20.heap.size=g11 at *
  exact yK09b1
 ):P:=h
theorem yK09c3 {P:Prop}(h:P:=by
 (refine zb rfl rfl rfl rfl (fun K hK=>?_))
 go_simp
 refine (key.out _ hx0 _ _ _ _ _ hI hIL).mono ?_
 rintro e w23 ⟨hx1,hcase⟩
 have hx2:=hw9.trans (hx0.trans hx1)
 rcases hcase with ⟨v,rfl,hF⟩|⟨rfl,hF⟩
 ·have hres:=za (show zM w (zbQ ss a p) [0] (zcJ a p) (letters (U|||al) 6) _ w23 from ⟨hx2,Or.inl ⟨v,rfl,hF⟩⟩)
  refine hK.out _ _ ?_
  refine pT ?_
  refine uQ ?_
  refine ze ?_
  go_wp2_with fail
  go_ret2
  exact hres.out
 ·have hres:=za (show zM w (zbQ ss a p) [0] (zcJ a p) (letters (U|||al) 6) _ w23 from ⟨hx2,Or.inr ⟨rfl,hF⟩⟩)
  refine hK.out _ _ ?_
  refine pT ?_
  refine uQ ?_
  refine ze ?_
  go_wp2_with fail
  go_ret2
  exact hres.out
 ):P:=h
theorem yK09b6 {P:Prop}(h:P:=by
 exact yK09c3
 ):P:=h
theorem yK09a3 {P:Prop}(h:P:=by
 refine hK.out _ _ hx0 ?_
 refine pT ?_
 refine uQ ?_
 refine zm rfl rfl rfl rfl (fun K hK=>?_) (fun K hK=>?_)
 ·go_simp
  have hI:=zck (x:=0) (Blk.new w20 3 #[.int .i64 ((0:Nat):Int)])
  have hx1:=(Ext.refl w20).alloc (.cells #[.int .i64 ((0:Nat):Int)] 3)
  replace hx0:=hx0.trans hx1
  clear hx1
  refine hK.out _ _ hx0 ?_
  refine pT ?_
  generalize w20.alloc (.cells #[.int .i64 ((0:Nat):Int)] 3)=w21 at *
  generalize w20.heap.size=g1 at *
  (refine zd rfl rfl rfl (fun K hK=>?_);go_simp)
  refine (hLT.out w21).mono ?_
  rintro e w22 ⟨AL,cL,rfl,hownL,hx1⟩
  have hIL:=zal.own hownL
  clear hownL
  replace hx0:=hx0.trans hx1
  replace hI:=hI.ext hx1
  clear hx1
  refine hK.out _ _ hx0 ?_
  refine pT ?_
  exact yK09b6
 ·go_simp
  refine (hLT.out w20).mono ?_
  rintro e w21 ⟨AL,cL,rfl,hownL,hx1⟩
  have hIL:=zal.own hownL
  clear hownL
  replace hx0:=hx0.trans hx1
  clear hx1
  refine hK.out _ _ hx0 ?_
  refine pT ?_
  (refine zd rfl rfl rfl (fun K hK=>?_);go_simp)
  have hI:=zck (x:=0) (Blk.new w21 3 #[.int .i64 ((0:Nat):Int)])
  have hx1:=(Ext.refl w21).alloc (.cells #[.int .i64 ((0:Nat):Int)] 3)
  replace hx0:=hx0.trans hx1
  replace hIL:=hIL.ext hx1
  clear hx1
  refine hK.out _ _ hx0 ?_
  refine pT ?_
  generalize w21.alloc (.cells #[.int .i64 ((0:Nat):Int)] 3)=w22 at *
  generalize w21.heap.size=g1 at *
  exact yK09b6
 ):P:=h
theorem yK09a4 {P:Prop}(h:P:=by
 (refine zd rfl rfl rfl (fun K hK=>?_);go_simp)
 refine hK.out _ _ hx0 ?_
 refine pT ?_
 refine uQ ?_
 exact yK09b1
 ):P:=h
theorem yK09a5 {P:Prop}(h:P:=by
 exact yK09b2
 ):P:=h
theorem yK09a6 {P:Prop}(h:P:=by
 exact yK09b3
 ):P:=h
theorem yK09a7 {P:Prop}(h:P:=by
 exact yK09b4
 ):P:=h
theorem yK09a8 {P:Prop}(h:P:=by
 have Kh12:=h12.cell 0
 have Zh12:=h12.frozen 0
 (refine zd rfl rfl rfl (fun K hK=>?_);go_simp)
 have hx2:=hx0.frm (Frm.setCell w21 g12 0 (.int .i64 (a.next.length:Nat))) (fun k hk e=>by have:=hGh12;omega)
 have h122:Blk (w21.setCell ⟨g12,0,none⟩ (.int .i64 (a.next.length:Nat))) g12 3 #[.int .i64 (a.next.length:Nat)]:=by simpa using h12.set_ 0 (.int .i64 (a.next.length:Nat))
 have h132:=h13.far (p:=⟨g12,0,none⟩) (by first|exact hne|exact hne.symm) (.int .i64 (a.next.length:Nat))
 refine hK.out _ _ hx2 ?_
 refine pT ?_
 clear h12 h13 Kh12 Zh12 hx0
 generalize w21.setCell ⟨g12,0,none⟩ (.int .i64 (a.next.length:Nat))=w22 at *
 have h12:=h122;have h13:=h132;have hx0:=hx2
 clear h122 h132 hx2
 have Kh13:=h13.cell 0
 have Zh13:=h13.frozen 0
 (refine zb rfl rfl rfl rfl (fun K hK=>?_))
 go_simp
 have hx2:=hx0.frm (Frm.setCell w22 g13 0 (.int .i64 (p.next.length:Nat))) (fun k hk e=>by have:=hGh13;omega)
 have h132:Blk (w22.setCell ⟨g13,0,none⟩ (.int .i64 (p.next.length:Nat))) g13 3 #[.int .i64 (p.next.length:Nat)]:=by simpa using h13.set_ 0 (.int .i64 (p.next.length:Nat))
 have h122:=h12.far (p:=⟨g13,0,none⟩) (by first|exact hne|exact hne.symm) (.int .i64 (p.next.length:Nat))
 refine hK.out _ _ ?_
 refine pT ?_
 clear h12 h13 Kh13 Zh13 hx0
 generalize w22.setCell ⟨g13,0,none⟩ (.int .i64 (p.next.length:Nat))=w23 at *
 have h12:=h122;have h13:=h132;have hx0:=hx2
 clear h122 h132 hx2
 refine ze ?_
 go_wp2_with fail
 go_meet
 exact⟨g12,g13,rfl,rfl,hx0,h12,h13⟩
 ):P:=h
theorem yK09b5 {P:Prop}(h:P:=by
 refine hK.out _ _ hx0 ?_
 refine pT ?_
 refine uQ ?_
 (refine zd rfl rfl rfl (fun K hK=>?_);go_simp)
 refine (hLT.out w21).mono ?_
 rintro e w22 ⟨AL,cL,rfl,hownL,hx1⟩
 have hIL:=zal.own hownL
 clear hownL
 replace hx0:=hx0.trans hx1
 replace hI:=hI.ext hx1
 clear hx1
 refine hK.out _ _ hx0 ?_
 refine pT ?_
 exact yK09c3
 ):P:=h
theorem yK09a9 {P:Prop}(h:P:=by
 (refine zd rfl rfl rfl (fun K hK=>?_);go_simp)
 refine (hSZ.out _ hx0).mono ?_
 rintro e w21 ⟨rfl,hx1⟩
 replace hx0:=hx0.trans hx1
 replace hI:=hI.ext hx1
 clear hx1
 exact yK09b5
 ):P:=h
theorem yK09a10 {P:Prop}(h:P:=by
 (refine zd rfl rfl rfl (fun K hK=>?_);go_simp)
 exact yK09b5
 ):P:=h
theorem zed {lo hi k c:Nat} {A:Option Addr} {ss:List Sys} {C:Option Addr} {m2 d2:Nat} {C':Option Addr} {m2' d2' lo2 hi2:Nat} {p:Aut} {w:World}
  (h:zey w lo hi A k ss) (hap:zE ss=true) (hT:Tab w) (hP0:zG w lo2 hi2 C m2 C' m2' p) (hp:zi p=true) :
  Calls Tryz.prog 119 #[.slice A k c,.pointer none,.agg #[.int .i64 p.al,.slice C m2 d2,.slice C' m2' d2']] w (zM w (zbQ ss free p) [0] (zcJ free p) (letters (zS ss|||free.al.toNat) 6)):=by
 have hv:=zhi
 obtain⟨a,hfa⟩:∃ a,Hid (a=free):=⟨_,rfl⟩
 rw [← hfa.out] at hv ⊢
 have hsv:∀ s∈ss,zl s=true:=by
  unfold zE at hap
  simp only [Bool.and_eq_true,List.all_eq_true] at hap
  exact hap.2.2
 have hk3:k≤3:=by
  unfold zE at hap
  simp only [Bool.and_eq_true,decide_eq_true_eq] at hap
  have:=h.1
  omega
 have hsl:=za (fun (s:Sys) (hs:s∈ss)=>zcX (hsv s hs))
 have hf16:=za (fun (s:Sys) (hs:s∈ss)=>show Few 16 s.edges from by
  obtain⟨q,_,_,hq,hf⟩:=zbP (hsv s hs)
  exact fun e he=>by have:=hf e he;omega)
 have hU:zS ss≤63:=by
  have key:∀ l:List Sys,(∀ s∈l,zl s=true)→zS l≤63:=by
   intro l hl
   have:∀ n,zS (l.take n)≤63:=by
    intro n
    induction n with
    |zero=>simp [zS]
    |succ n ih =>
     rcases Nat.lt_or_ge n l.length with h1|h1
     ·rw [zbW (List.getElem?_eq_getElem h1)]
      have:=zP (hl _ (List.getElem_mem h1))
      have:=Nat.or_lt_two_pow (n:=6) (x:=zS (l.take n)) (y:=l[n].al.toNat) (by omega) (by omega)
      omega
     ·rw [List.take_of_length_le (by omega)]
      rw [List.take_of_length_le h1] at ih
      exact ih
   have h2:=this l.length
   rwa [List.take_length] at h2
  exact key ss hsv
 have hal:=(zj hv).1
 obtain⟨al,hale⟩:∃ al:Nat,Hid (a.al=al):=⟨a.al.toNat,by unfold Hid;omega⟩
 have hal6:al≤63:=by have:=hale.out;omega
 have hpa:=za (show zaF ss=(zS ss:Int) by unfold zaF;rw [hap];rfl)
 have hap3:=za (show a.al.toNat=al by have:=hale.out;omega)
 have hpal:=za (show 0≤p.al∧p.al≤63 from (zj hp).1)
 rw [hap3.out]
 have HS:=za (fun W (hW:Ext w W)=>h.ext hW)
 have HT:=za (fun W (hW:Ext w W)=>hT.ext hW)
 have HP:=za (fun W (hW:Ext w W)=>hP0.ext hW)
 have Hv:=za hv
 have Hp:=za hp
 generalize hUe:zS ss=U at *
 have HU:=za hUe
 clear hUe h hT hP0 hv hp hap hsv hal
 go_enter Tryz.func119,Tryz.ntmps119
 go_upto_region 1 with fail
 have hw2:Ext w ((w.alloc (.cells #[.pointer none] 187)).alloc (.cells #[.int .i64 p.al,.slice C m2 d2,.slice C' m2' d2'] 31)):=((Ext.refl w).alloc _).alloc _
 obtain⟨b4,b5⟩:=zU (Ext.refl ((w.alloc (.cells #[.pointer none] 187)).alloc (.cells #[.int .i64 p.al,.slice C m2 d2,.slice C' m2' d2'] 31)))
 generalize (w.alloc (.cells #[.pointer none] 187)).alloc (.cells #[.int .i64 p.al,.slice C m2 d2,.slice C' m2' d2'] 31)=w2 at *
 go_upto_region 2 with (go_at_call 208;refine (zeX (HS.out _ hw2) hf16.out (by omega)).mono ?_;rintro e w3 ⟨M,dm,rfl,hpt,hx3⟩)
 have hw3:=hw2.trans hx3
 have b8:=Blk.new w3 222 #[.slice A k c,.slice M k dm]
 have hx4:=hx3.alloc (.cells #[.slice A k c,.slice M k dm] 222)
 have hpt4:=hpt.ext ((Ext.refl w3).alloc (.cells #[.slice A k c,.slice M k dm] 222))
 have hg8n:w2.heap.size≤w3.heap.size:=hx3.size
 generalize hg8:w3.heap.size=g8 at *
 clear hpt hg8
 generalize w3.alloc (.cells #[.slice A k c,.slice M k dm] 222)=w4 at *
 have hw4:=hw2.trans hx4
 clear hw3 hx3
 go_upto_region 3 with (go_at_call 107;refine (zba (HS.out _ hw4)).mono ?_;rw [hpa.out];rintro e w5 ⟨rfl,hx5⟩)
 have b45:=b4.ext (hx4.trans hx5)
 have b55:=b5.ext (hx4.trans hx5)
 have b85:=b8.ext hx5
 have hpt5:=hpt4.ext hx5
 have hw5':=hw4.trans hx5
 have hs25:=(hx4.trans hx5).size
 have hl2:=b5.lt
 have hg8':=b8.lt
 have hs2g:w2.heap.size≤g8:=hg8n
 have k4:=b45.cell 0
 have z4:=b45.frozen 0
 clear hx4 hx5 b4 b5 b8 hpt4 hw2 hw4
 go_upto_region 4 with fail
 clear k4 z4
 have hn1:=Blk.new w5 137 #[.slice none 0 0]
 have hm1:=(Ext.refl w5).alloc (.cells #[.slice none 0 0] 137)
 have hs1:(w5.alloc (.cells #[.slice none 0 0] 137)).heap.size=w5.heap.size+1:=by simp
 have hn2:=Blk.new (w5.alloc (.cells #[.slice none 0 0] 137)) 4 #[.bool true]
 rw [hs1] at hn2
 have hm2:=(Ext.refl (w5.alloc (.cells #[.slice none 0 0] 137))).alloc (.cells #[.bool true] 4)
 have hs2:((w5.alloc (.cells #[.slice none 0 0] 137)).alloc (.cells #[.bool true] 4)).heap.size=w5.heap.size+1+1:=by simp
 have hn3:=Blk.new ((w5.alloc (.cells #[.slice none 0 0] 137)).alloc (.cells #[.bool true] 4)) 31 #[.int .i64 0,.slice (some ⟨w5.heap.size,0,none⟩) 1 1,.slice (some ⟨w5.heap.size+1,0,none⟩) 1 1]
 rw [hs2] at hn3
 have hm3:=(Ext.refl ((w5.alloc (.cells #[.slice none 0 0] 137)).alloc (.cells #[.bool true] 4))).alloc (.cells #[.int .i64 0,.slice (some ⟨w5.heap.size,0,none⟩) 1 1,.slice (some ⟨w5.heap.size+1,0,none⟩) 1 1] 31)
 replace hn1:=hn1.ext (hm2.trans hm3)
 replace hn2:=hn2.ext hm3
 have hm:=hm1.trans (hm2.trans hm3)
 have b46:=b45.ext hm
 have b56:=b55.ext hm
 have b86:=b85.ext hm
 have hpt6:=hpt5.ext hm
 have k4:=b46.cell 0
 have z4:=b46.frozen 0
 have hw6:=hw5'.trans hm
 clear hm1 hm2 hm3 hm hs1 hs2 b45 b55 b85 hpt5
 go_upto_region 5 with fail
 have hgz:w.heap.size<w5.heap.size:=by have:=hw5'.size;omega
 generalize w5.heap.size=z1 at *
 generalize ((w5.alloc (.cells #[.slice none 0 0] 137)).alloc (.cells #[.bool true] 4)).alloc (.cells #[.int .i64 0,.slice (some ⟨z1,0,none⟩) 1 1,.slice (some ⟨z1+1,0,none⟩) 1 1] 31)=w6 at *
 have hset:=Frm.setCell w6 w.heap.size 0 (.pointer (some ⟨z1+1+1,0,none⟩))
 have b47:Blk (w6.setCell ⟨w.heap.size,0,none⟩ (.pointer (some ⟨z1+1+1,0,none⟩))) w.heap.size 187 #[.pointer (some ⟨z1+1+1,0,none⟩)]:=by simpa using b46.set_ 0 (.pointer (some ⟨z1+1+1,0,none⟩))
 have b57:=b56.frm hset (by omega)
 have b87:=b86.frm hset (by omega)
 have hn17:=hn1.frm hset (by omega)
 have hn27:=hn2.frm hset (by omega)
 have hn37:=hn3.frm hset (by omega)
 have hw7:=hw6.frm hset (fun k hk e=>by omega)
 have hpt7:PtAt (w6.setCell ⟨w.heap.size,0,none⟩ (.pointer (some ⟨z1+1+1,0,none⟩))) lo hi A k w2.heap.size g8 M ss:=by
  obtain⟨bs,hr,hmv⟩:=hpt6.mov
  exact⟨HS.out _ hw7,bs,hr.frm hset (fun k h1 h2 e=>by omega),hmv.frm hset (fun b cs hB e=>by
   subst e
   exact absurd rfl (hB.ne b46 (by decide)))⟩
 clear hn1 hn2 hn3 b46 b56 b86 hpt6 hset k4 z4
 generalize w6.setCell ⟨w.heap.size,0,none⟩ (.pointer (some ⟨z1+1+1,0,none⟩))=w5 at *
 obtain⟨ga,B,m1,d1,B',m1',d1',lo1,hi1,hB4z,hGa,hAa⟩:∃ (ga:Nat) (B:Option Addr) (m1 d1:Nat) (B':Option Addr) (m1' d1' lo1 hi1:Nat),Blk w5 w.heap.size 187 #[.pointer (some ⟨ga,0,none⟩)]∧Blk w5 ga 31 #[.int .i64 a.al,.slice B m1 d1,.slice B' m1' d1']∧zG w5 lo1 hi1 B m1 B' m1' a:=by
  refine⟨z1+1+1,some ⟨z1,0,none⟩,1,1,some ⟨z1+1,0,none⟩,1,1,z1,z1+2,b47,by rw [hfa.out];exact hn37,?_⟩
  rw [hfa.out]
  refine⟨⟨rfl,[.slice none 0 0],reads_blk hn17 (Nat.le_refl _) (by omega),rfl,fun i row l hr hl=>?_⟩,rfl,reads_blk hn27 (by omega) (by omega)⟩
  cases i with
  |zero =>
   simp at hr
   simp [free] at hl
   subst hr;subst hl
   exact⟨none,0,rfl,Reads.nil⟩
  |succ i=>simp at hr
 have hB4:=za (fun W (hW:Ext w5 W)=>hB4z.ext hW)
 have hB5:=za (fun W (hW:Ext w5 W)=>b57.ext hW)
 have hB8:=za (fun W (hW:Ext w5 W)=>b87.ext hW)
 have hPT:=za (fun W (hW:Ext w5 W)=>hpt7.ext hW)
 have HGA5:=za (fun W (hW:Ext w5 W)=>hGa.ext hW)
 have HA5:=za (fun W (hW:Ext w5 W)=>hAa.ext hW)
 have hw5:=hw7
 clear hw7 hw6 hw5' hn17 hn27 hn37 b47 b57 b87 hpt7 hGa hAa hB4z hgz hg8' hg8n hs2g hl2 hs25
 go_cut [10,11] (fun v10 v11 wx=>∃ (g10 g11:Nat) (UA RA:Option Addr) (uc rc:Nat),v10=.pointer (some ⟨g10,0,none⟩)∧v11=.pointer (some ⟨g11,0,none⟩)∧Ext w5 wx∧Blk wx g10 177 #[.slice UA a.next.length uc]∧Blk wx g11 177 #[.slice RA p.next.length rc]∧TbO wx UA uc a∧TbO wx RA rc p)
 case first =>
  have c4:∀ W,Ext w5 W→W.cell? ⟨w.heap.size,0,none⟩=some (.pointer (some ⟨ga,0,none⟩)):=fun W hW=>by rw [(hB4.out W hW).cell];rfl
  have ca:∀ W,Ext w5 W→∀ j,W.cell? ⟨ga,j,none⟩=#[Value.int .i64 a.al,.slice B m1 d1,.slice B' m1' d1'][j]?:=fun W hW=>(HGA5.out W hW).cell
  have c5:∀ W,Ext w5 W→∀ j,W.cell? ⟨w.heap.size+1,j,none⟩=#[Value.int .i64 p.al,.slice C m2 d2,.slice C' m2' d2'][j]?:=fun W hW=>(hB5.out W hW).cell
  have hTA:=za (fun W (hW:Ext w5 W)=>zbf (d:=d1) (d':=d1') (HA5.out W hW) Hv.out)
  have hTP:=za (fun W (hW:Ext w5 W)=>zbf (d:=d2) (d':=d2') (HP.out W (hw5.trans hW)) Hp.out)
  have hww:=Ext.refl w5
  refine uR (fun X=>Ext w5 X) [5,8,9] (zw.app [0,4] (zw.three 1 (zw.app [2] (zw.three 3 (zw.three 5 (zw.two 6 (zw.of [7,8,9]) 7 (zw.of [6,8,9])) 6 (zw.two 5 (zw.of [7,8,9]) 7 (zw.of [5,8,9])) 7 (zw.two 5 (zw.of [6,8,9]) 6 (zw.of [5,8,9]))) 6 (zw.two 3 (zw.two 5 (zw.of [7,8,9]) 7 (zw.of [5,8,9])) 7 (zw.of [3,5,8,9])) 7 (zw.two 3 (zw.two 5 (zw.of [6,8,9]) 6 (zw.of [5,8,9])) 6 (zw.of [3,5,8,9])))) 6 (zw.two 1 (zw.app [2] (zw.two 3 (zw.two 5 (zw.of [7,8,9]) 7 (zw.of [5,8,9])) 7 (zw.of [3,5,8,9]))) 7 (zw.of [1,2,3,5,8,9])) 7 (zw.two 1 (zw.app [2] (zw.two 3 (zw.two 5 (zw.of [6,8,9]) 6 (zw.of [5,8,9])) 6 (zw.of [3,5,8,9]))) 6 (zw.of [1,2,3,5,8,9])))) ?_
  refine uQ ?_
  have hx0:Ext w5 w5.drew:=hww.drew
  generalize w5.drew=wd at *
  refine uQ ?_
  refine zaH rfl rfl rfl rfl rfl rfl (fun K hK=>?_) (fun K hK=>?_) (fun K hK=>?_)
  ·go_simp
   refine hK.out _ _ hx0 ?_
   refine pT ?_
   refine uQ ?_
   refine zaH rfl rfl rfl rfl rfl rfl (fun K hK=>?_) (fun K hK=>?_) (fun K hK=>?_)
   ·go_simp
    refine (hTA.out _ hx0).mono ?_
    rintro e w20 ⟨UA,uc,rfl,hA,hx1⟩
    replace hx0:=hx0.trans hx1
    clear hx1
    refine hK.out _ _ hx0 ?_
    refine pT ?_
    refine zaH rfl rfl rfl rfl rfl rfl (fun K hK=>?_) (fun K hK=>?_) (fun K hK=>?_)
    ·go_simp
     refine (hTP.out _ hx0).mono ?_
     rintro e w21 ⟨RA,rc,rfl,hP,hx1⟩
     replace hx0:=hx0.trans hx1
     replace hA:=hA.ext hx1
     clear hx1
     refine hK.out _ _ hx0 ?_
     refine pT ?_
     refine zm rfl rfl rfl rfl (fun K hK=>?_) (fun K hK=>?_)
     ·go_simp
      have hGh10:=hx0.size
      have hx1:=(Ext.refl w21).alloc (.cells #[.slice none 0 0] 177)
      replace hx0:=hx0.trans hx1
      replace hA:=hA.ext hx1
      replace hP:=hP.ext hx1
      clear hx1
      have h10:=Blk.new w21 177 #[.slice none 0 0]
      refine hK.out _ _ hx0 ?_
      refine pT ?_
      generalize w21.alloc (.cells #[.slice none 0 0] 177)=w22 at *
      generalize w21.heap.size=g10 at *
      exact yK09a6
     ·go_simp
      have hGh11:=hx0.size
      have hx1:=(Ext.refl w21).alloc (.cells #[.slice none 0 0] 177)
      replace hx0:=hx0.trans hx1
      replace hA:=hA.ext hx1
      replace hP:=hP.ext hx1
      clear hx1
      have h11:=Blk.new w21 177 #[.slice none 0 0]
      refine hK.out _ _ hx0 ?_
      refine pT ?_
      generalize w21.alloc (.cells #[.slice none 0 0] 177)=w22 at *
      generalize w21.heap.size=g11 at *
      exact yK09a5
    ·go_simp
     have hGh10:=hx0.size
     have hx1:=(Ext.refl w20).alloc (.cells #[.slice none 0 0] 177)
     replace hx0:=hx0.trans hx1
     replace hA:=hA.ext hx1
     clear hx1
     have h10:=Blk.new w20 177 #[.slice none 0 0]
     refine hK.out _ _ hx0 ?_
     refine pT ?_
     generalize w20.alloc (.cells #[.slice none 0 0] 177)=w21 at *
     generalize w20.heap.size=g10 at *
     refine zm rfl rfl rfl rfl (fun K hK=>?_) (fun K hK=>?_)
     ·go_simp
      refine (hTP.out _ hx0).mono ?_
      rintro e w22 ⟨RA,rc,rfl,hP,hx1⟩
      replace hx0:=hx0.trans hx1
      replace h10:=h10.ext hx1
      replace hA:=hA.ext hx1
      clear hx1
      refine hK.out _ _ hx0 ?_
      refine pT ?_
      exact yK09a6
     ·go_simp
      have hne:=Nat.ne_of_lt h10.lt
      have hGh11:=hx0.size
      have hx1:=(Ext.refl w21).alloc (.cells #[.slice none 0 0] 177)
      replace hx0:=hx0.trans hx1
      replace h10:=h10.ext hx1
      replace hA:=hA.ext hx1
      clear hx1
      have h11:=Blk.new w21 177 #[.slice none 0 0]
      refine hK.out _ _ hx0 ?_
      refine pT ?_
      generalize w21.alloc (.cells #[.slice none 0 0] 177)=w22 at *
      generalize w21.heap.size=g11 at *
      exact yK09a7
    ·go_simp
     have hGh11:=hx0.size
     have hx1:=(Ext.refl w20).alloc (.cells #[.slice none 0 0] 177)
     replace hx0:=hx0.trans hx1
     replace hA:=hA.ext hx1
     clear hx1
     have h11:=Blk.new w20 177 #[.slice none 0 0]
     refine hK.out _ _ hx0 ?_
     refine pT ?_
     generalize w20.alloc (.cells #[.slice none 0 0] 177)=w21 at *
     generalize w20.heap.size=g11 at *
     refine zm rfl rfl rfl rfl (fun K hK=>?_) (fun K hK=>?_)
     ·go_simp
      refine (hTP.out _ hx0).mono ?_
      rintro e w22 ⟨RA,rc,rfl,hP,hx1⟩
      replace hx0:=hx0.trans hx1
      replace h11:=h11.ext hx1
      replace hA:=hA.ext hx1
      clear hx1
      refine hK.out _ _ hx0 ?_
      refine pT ?_
      exact yK09a5
     ·go_simp
      have hne:=Nat.ne_of_lt h11.lt
      have hGh10:=hx0.size
      have hx1:=(Ext.refl w21).alloc (.cells #[.slice none 0 0] 177)
      replace hx0:=hx0.trans hx1
      replace h11:=h11.ext hx1
      replace hA:=hA.ext hx1
      clear hx1
      have h10:=Blk.new w21 177 #[.slice none 0 0]
      refine hK.out _ _ hx0 ?_
      refine pT ?_
      generalize w21.alloc (.cells #[.slice none 0 0] 177)=w22 at *
      generalize w21.heap.size=g10 at *
      exact yK09a7
   ·go_simp
    have hGh10:=hx0.size
    have hx1:=(Ext.refl wd).alloc (.cells #[.slice none 0 0] 177)
    replace hx0:=hx0.trans hx1
    clear hx1
    have h10:=Blk.new wd 177 #[.slice none 0 0]
    refine hK.out _ _ hx0 ?_
    refine pT ?_
    generalize wd.alloc (.cells #[.slice none 0 0] 177)=w20 at *
    generalize wd.heap.size=g10 at *
    exact yK09a2
   ·go_simp
    have hGh11:=hx0.size
    have hx1:=(Ext.refl wd).alloc (.cells #[.slice none 0 0] 177)
    replace hx0:=hx0.trans hx1
    clear hx1
    have h11:=Blk.new wd 177 #[.slice none 0 0]
    refine hK.out _ _ hx0 ?_
    refine pT ?_
    generalize wd.alloc (.cells #[.slice none 0 0] 177)=w20 at *
    generalize wd.heap.size=g11 at *
    exact yK09a1
  ·go_simp
   have hGh10:=hx0.size
   have hx1:=(Ext.refl wd).alloc (.cells #[.slice none 0 0] 177)
   replace hx0:=hx0.trans hx1
   clear hx1
   have h10:=Blk.new wd 177 #[.slice none 0 0]
   refine hK.out _ _ hx0 ?_
   refine pT ?_
   generalize wd.alloc (.cells #[.slice none 0 0] 177)=w20 at *
   generalize wd.heap.size=g10 at *
   refine zm rfl rfl rfl rfl (fun K hK=>?_) (fun K hK=>?_)
   ·go_simp
    refine hK.out _ _ hx0 ?_
    refine pT ?_
    refine uQ ?_
    exact yK09a2
   ·go_simp
    have hne:=Nat.ne_of_lt h10.lt
    have hGh11:=hx0.size
    have hx1:=(Ext.refl w20).alloc (.cells #[.slice none 0 0] 177)
    replace hx0:=hx0.trans hx1
    replace h10:=h10.ext hx1
    clear hx1
    have h11:=Blk.new w20 177 #[.slice none 0 0]
    refine hK.out _ _ hx0 ?_
    refine pT ?_
    generalize w20.alloc (.cells #[.slice none 0 0] 177)=w21 at *
    generalize w20.heap.size=g11 at *
    exact yK09a4
  ·go_simp
   have hGh11:=hx0.size
   have hx1:=(Ext.refl wd).alloc (.cells #[.slice none 0 0] 177)
   replace hx0:=hx0.trans hx1
   clear hx1
   have h11:=Blk.new wd 177 #[.slice none 0 0]
   refine hK.out _ _ hx0 ?_
   refine pT ?_
   generalize wd.alloc (.cells #[.slice none 0 0] 177)=w20 at *
   generalize wd.heap.size=g11 at *
   refine zm rfl rfl rfl rfl (fun K hK=>?_) (fun K hK=>?_)
   ·go_simp
    refine hK.out _ _ hx0 ?_
    refine pT ?_
    refine uQ ?_
    exact yK09a1
   ·go_simp
    have hne:=Nat.ne_of_lt h11.lt
    have hGh10:=hx0.size
    have hx1:=(Ext.refl w20).alloc (.cells #[.slice none 0 0] 177)
    replace hx0:=hx0.trans hx1
    replace h11:=h11.ext hx1
    clear hx1
    have h10:=Blk.new w20 177 #[.slice none 0 0]
    refine hK.out _ _ hx0 ?_
    refine pT ?_
    generalize w20.alloc (.cells #[.slice none 0 0] 177)=w21 at *
    generalize w20.heap.size=g10 at *
    exact yK09a4
 case rest =>
  obtain⟨g10,g11,UA,RA,uc,rc,rfl,rfl,hx6,h10,h11,hA,hP⟩:=hcut
  have hH10:=za (fun W (hW:Ext wc W)=>h10.ext hW)
  have hH11:=za (fun W (hW:Ext wc W)=>h11.ext hW)
  have hw6:=hw5.trans hx6
  go_upto_region 6 with fail
  go_cut [12,13] (fun v12 v13 wx=>∃ (g12 g13:Nat),v12=.pointer (some ⟨g12,0,none⟩)∧v13=.pointer (some ⟨g13,0,none⟩)∧Ext wc wx∧Blk wx g12 3 #[.int .i64 (a.next.length:Nat)]∧Blk wx g13 3 #[.int .i64 (p.next.length:Nat)])
  case first =>
   have c10:∀ W,Ext wc W→W.cell? ⟨g10,0,none⟩=some (.slice UA a.next.length uc):=fun W hW=>by rw [(hH10.out W hW).cell];rfl
   have c11:∀ W,Ext wc W→W.cell? ⟨g11,0,none⟩=some (.slice RA p.next.length rc):=fun W hW=>by rw [(hH11.out W hW).cell];rfl
   have hww:=Ext.refl wc
   clear h10 h11 hA hP
   refine uR (fun X=>Ext wc X) [7] (zw.app [0,1,2,3] (zw.two 4 (zw.of [5,6,7]) 5 (zw.of [4,6,7]))) ?_
   refine uQ ?_
   have hx0:Ext wc wc.drew:=hww.drew
   generalize wc.drew=wd at *
   refine uQ ?_
   refine zm rfl rfl rfl rfl (fun K hK=>?_) (fun K hK=>?_)
   ·go_simp
    have hGh12:=hx0.size
    have hx1:=(Ext.refl wd).alloc (.cells #[.int .i64 0] 3)
    replace hx0:=hx0.trans hx1
    clear hx1
    have h12:=Blk.new wd 3 #[.int .i64 0]
    refine hK.out _ _ hx0 ?_
    refine pT ?_
    generalize wd.alloc (.cells #[.int .i64 0] 3)=w20 at *
    generalize wd.heap.size=g12 at *
    (refine zd rfl rfl rfl (fun K hK=>?_);go_simp)
    have hne:=Nat.ne_of_lt h12.lt
    have hGh13:=hx0.size
    have hx1:=(Ext.refl w20).alloc (.cells #[.int .i64 0] 3)
    replace hx0:=hx0.trans hx1
    replace h12:=h12.ext hx1
    clear hx1
    have h13:=Blk.new w20 3 #[.int .i64 0]
    refine hK.out _ _ hx0 ?_
    refine pT ?_
    generalize w20.alloc (.cells #[.int .i64 0] 3)=w21 at *
    generalize w20.heap.size=g13 at *
    exact yK09a8
   ·go_simp
    have hGh13:=hx0.size
    have hx1:=(Ext.refl wd).alloc (.cells #[.int .i64 0] 3)
    replace hx0:=hx0.trans hx1
    clear hx1
    have h13:=Blk.new wd 3 #[.int .i64 0]
    refine hK.out _ _ hx0 ?_
    refine pT ?_
    generalize wd.alloc (.cells #[.int .i64 0] 3)=w20 at *
    generalize wd.heap.size=g13 at *
    (refine zd rfl rfl rfl (fun K hK=>?_);go_simp)
    have hne:=Nat.ne_of_lt h13.lt
    have hGh12:=hx0.size
    have hx1:=(Ext.refl w20).alloc (.cells #[.int .i64 0] 3)
    replace hx0:=hx0.trans hx1
    replace h13:=h13.ext hx1
    clear hx1
    have h12:=Blk.new w20 3 #[.int .i64 0]
    refine hK.out _ _ hx0 ?_
    refine pT ?_
    generalize w20.alloc (.cells #[.int .i64 0] 3)=w21 at *
    generalize w20.heap.size=g12 at *
    exact yK09a8
  case rest =>
   obtain⟨g12,g13,rfl,rfl,hx7,h12,h13⟩:=hcut
   rename World=>w7
   have hw9:=hw6.trans hx7
   have hC:BCaps w7 g8 g10 g11 g12 g13 A M UA RA k c dm uc rc ss a p:=by
    obtain⟨lo3,hi3,htu⟩:=hA.at_
    obtain⟨lo4,hi4,htr⟩:=hP.at_
    exact⟨hB8.out _ (hx6.trans hx7),h10.ext hx7,h11.ext hx7,h12,h13,⟨_,_,_,_,hPT.out _ (hx6.trans hx7)⟩,⟨lo3,hi3,htu.ext hx7⟩,⟨lo4,hi4,htr.ext hx7⟩⟩
   have hGC:GCaps w7 w.heap.size ga (w.heap.size+1) g12 g13 a p:=⟨hB4.out _ (hx6.trans hx7),⟨B,m1,d1,B',m1',d1',lo1,hi1,HGA5.out _ (hx6.trans hx7),HA5.out _ (hx6.trans hx7)⟩,⟨C,m2,d2,C',m2',d2',lo2,hi2,hB5.out _ (hx6.trans hx7),HP.out _ hw9⟩,h12,h13⟩
   obtain⟨N,hN⟩:∃ N:Nat,Hid (zab (zbc ss [a,p])=N):=⟨_,rfl⟩
   obtain⟨⟨_,n12⟩,⟨_,m12⟩⟩:=And.intro (zj Hv.out).2.1 (zj Hp.out).2.1
   obtain⟨⟨n1,_⟩,⟨m1_,_⟩⟩:=And.intro (zj Hv.out).2.1 (zj Hp.out).2.1
   obtain⟨S,hS⟩:∃ S:Nat,Hid (zab (ss.map zeI)=S):=⟨_,rfl⟩
   have hS4:1≤S∧S≤4096:=by
    rw [← hS.out]
    refine⟨zdm hsl.out,Nat.le_trans (zcE hsl.out) ?_⟩
    have:=(HS.out w (Ext.refl _)).1
    calc 16 ^ ss.length≤16 ^ 3:=Nat.pow_le_pow_right (by omega) (by omega)
     _=4096:=by decide
   have hNe:S*a.next.length*p.next.length=N:=by
    rw [← hN.out,← hS.out,show zbc ss [a,p]=ss.map zeI++[zdB a,zdB p] from rfl,zcc]
    simp [zab,zaz,zdB,Nat.mul_assoc]
   have hSn:S*a.next.length≤4096*12:=Nat.mul_le_mul hS4.2 n12
   have hNle:N≤4096*12*12:=by rw [← hNe];exact Nat.mul_le_mul hSn m12
   have hN1:1≤N:=by rw [← hNe];exact Nat.mul_pos (Nat.mul_pos hS4.1 n1) m1_
   obtain⟨sn,hsn⟩:∃ z:Nat,Hid (S*a.next.length=z):=⟨_,rfl⟩
   rw [hsn.out] at hNe hSn
   have hsni:(S:Int)*(a.next.length:Int)=(sn:Int):=by rw [← hsn.out];exact (Int.natCast_mul S _).symm
   have hNi:(sn:Int)*(p.next.length:Int)=(N:Int):=by rw [← hNe];exact (Int.natCast_mul sn _).symm
   have Hd:=za (show ∀ x l,x<N→l<6→∀ y∈zbQ ss a p x l,y<N from fun x l _ hl y hy=>by
    rw [zdS] at hy
    rw [← hN.out]
    refine pnx_lt (fun mm hmm=>?_) hl y hy
    rcases List.mem_append.1 hmm with h1|h1
    ·obtain⟨s,hs',rfl⟩:=List.mem_map.1 h1
     exact zfv (hsl.out s hs')
    ·obtain⟨b,hb',rfl⟩:=List.mem_map.1 h1
     simp at hb'
     rcases hb' with rfl|rfl
     ·exact zde Hv.out
     ·exact zde Hp.out)
   have Hdl:=za (show ∀ x l,(zbQ ss a p x l).length≤4096 from fun x l=>by
    unfold zbQ
    rw [List.length_map]
    refine Nat.le_trans (nx_len hsl.out _ l) ?_
    have:=(HS.out w (Ext.refl _)).1
    calc 16 ^ ss.length≤16 ^ 3:=Nat.pow_le_pow_right (by omega) (by omega)
     _=4096:=by decide)
   have hrise:=za (zdH (U|||al))
   have key:=za (fun W (hW:Ext w7 W) A1 c1 AL q' cL (hA1:zal W A1 1 [0]) (hL:zal W AL q' (letters (U|||al) 6))=>zdi (w:=W) (N:=N) (kn:=209) (kg:=211) (m:=1) (c:=c1) (cL:=cL)
    (capn:=#[.pointer (some ⟨g10,0,none⟩),.pointer (some ⟨g13,0,none⟩),.pointer (some ⟨g12,0,none⟩),.pointer (some ⟨g11,0,none⟩),.pointer (some ⟨g8,0,none⟩)])
    (capg:=#[.pointer (some ⟨w.heap.size,0,none⟩),.pointer (some ⟨g13,0,none⟩),.pointer (some ⟨g12,0,none⟩),.pointer (some ⟨w.heap.size+1,0,none⟩)])
    (goal:=zcJ a p) (d:=zbQ ss a p) (D:=4096) hA1 (fun n hn=>by simp at hn;omega) (by omega) hL hrise.out (by omega) (by omega) (fun args W=>by kernel_rfl) (fun args W=>by kernel_rfl)
    (fun W' hW' n hn=>brk_goal (hGC.ext (hW.trans hW')) Hv.out Hp.out (by omega))
    (fun n l hn hl=>⟨Hdl.out n l,Hd.out n l hn (hrise.out.1 l hl)⟩)
    (fun W' hW' n l hn hl base A m c xs hb0 hb hm zil=>brk_next (hC.ext hW) (HT.out _ (hw9.trans hW)) hW' hsl.out hk3 Hv.out Hp.out (by rw [hN.out];exact hn) (hrise.out.1 l hl) hb0 hb hm zil))
   have hSZ:=za (show ∀ W,Ext w7 W→Calls Tryz.prog 212 #[.agg #[.slice A k c,.slice M k dm]] W fun e w'=>e=.returned (.int .i64 (S:Nat))∧Ext W w' from fun W hW=>by
    have:=zhn (c:=c) (dm:=dm) (hPT.out W ((hx6.trans hx7).trans hW)) hsl.out hk3
    rw [hS.out] at this
    exact this)
   have hLT:=za (fun W=>zaK (U|||al) (by have:=Nat.or_lt_two_pow (n:=6) (x:=U) (y:=al) (by omega) (by omega);unfold Sm;omega) W)
   have hor:bits .or .i64 (U:Int) (al:Int)=((U|||al:Nat):Int):=zbG (by unfold Sm;omega) (by unfold Sm;omega)
   have c8:∀ W,Ext w7 W→∀ j,W.cell? ⟨g8,j,none⟩=#[Value.slice A k c,.slice M k dm][j]?:=fun W hW=>(hC.h8.ext hW).cell
   have c12:∀ W,Ext w7 W→W.cell? ⟨g12,0,none⟩=some (.int .i64 (a.next.length:Nat)):=fun W hW=>by rw [(hC.h12.ext hW).cell];rfl
   have c13:∀ W,Ext w7 W→W.cell? ⟨g13,0,none⟩=some (.int .i64 (p.next.length:Nat)):=fun W hW=>by rw [(hC.h13.ext hW).cell];rfl
   have c4:∀ W,Ext w7 W→W.cell? ⟨w.heap.size,0,none⟩=some (.pointer (some ⟨ga,0,none⟩)):=fun W hW=>by rw [(hGC.h4.ext hW).cell];rfl
   have ca:∀ W,Ext w7 W→∀ j,W.cell? ⟨ga,j,none⟩=#[Value.int .i64 (al:Nat),.slice B m1 d1,.slice B' m1' d1'][j]?:=fun W hW=>by
    have:=(HGA5.out W ((hx6.trans hx7).trans hW)).cell
    rw [hale.out] at this
    exact this
   have hw1:IntKind.i64.wrap (sn:Int)=(sn:Int):=zfW sn (by omega)
   have hw2:IntKind.i64.wrap (N:Int)=(N:Int):=zfW N (by omega)
   have hww:=Ext.refl w7
   clear hC hGC h10 h11 h12 h13 hA hP
   go_upto_region 9 with fail
   refine uR (fun X=>Ext w7 X) [16] (zw.app [0,2,4,7,8,14,15] (zw.three 1 (zw.app [3,5] (zw.two 6 (zw.of [9,10,11,12,13,16,17,18,19,20]) 9 (zw.app [10,11,12] (zw.two 6 (zw.of [13,16,17,18,19,20]) 13 (zw.of [6,16,17,18,19,20]))))) 6 (zw.two 1 (zw.of [3,5,9,10,11,12,13,16,17,18,19,20]) 9 (zw.of [10,11,12,1,3,5,13,16,17,18,19,20])) 9 (zw.app [10,11,12] (zw.two 1 (zw.app [3,5] (zw.two 6 (zw.of [13,16,17,18,19,20]) 13 (zw.of [6,16,17,18,19,20]))) 6 (zw.of [1,3,5,13,16,17,18,19,20]))))) ?_
   refine uQ ?_
   have hx0:Ext w7 w7.drew:=hww.drew
   generalize w7.drew=wd at *
   refine uQ ?_
   refine zaH rfl rfl rfl rfl rfl rfl (fun K hK=>?_) (fun K hK=>?_) (fun K hK=>?_)
   ·go_simp
    refine (hSZ.out _ hx0).mono ?_
    rintro e w20 ⟨rfl,hx1⟩
    replace hx0:=hx0.trans hx1
    clear hx1
    refine hK.out _ _ hx0 ?_
    refine pT ?_
    refine uQ ?_
    refine zm rfl rfl rfl rfl (fun K hK=>?_) (fun K hK=>?_)
    ·go_simp
     have hI:=zck (x:=0) (Blk.new w20 3 #[.int .i64 ((0:Nat):Int)])
     have hx1:=(Ext.refl w20).alloc (.cells #[.int .i64 ((0:Nat):Int)] 3)
     replace hx0:=hx0.trans hx1
     clear hx1
     refine hK.out _ _ hx0 ?_
     refine pT ?_
     generalize w20.alloc (.cells #[.int .i64 ((0:Nat):Int)] 3)=w21 at *
     generalize w20.heap.size=g1 at *
     exact yK09a10
    ·go_simp
     exact yK09a3
   ·go_simp
    have hI:=zck (x:=0) (Blk.new wd 3 #[.int .i64 ((0:Nat):Int)])
    have hx1:=(Ext.refl wd).alloc (.cells #[.int .i64 ((0:Nat):Int)] 3)
    replace hx0:=hx0.trans hx1
    clear hx1
    refine hK.out _ _ hx0 ?_
    refine pT ?_
    generalize wd.alloc (.cells #[.int .i64 ((0:Nat):Int)] 3)=w20 at *
    generalize wd.heap.size=g1 at *
    refine zm rfl rfl rfl rfl (fun K hK=>?_) (fun K hK=>?_)
    ·go_simp
     refine (hSZ.out _ hx0).mono ?_
     rintro e w21 ⟨rfl,hx1⟩
     replace hx0:=hx0.trans hx1
     replace hI:=hI.ext hx1
     clear hx1
     refine hK.out _ _ hx0 ?_
     refine pT ?_
     refine uQ ?_
     exact yK09a10
    ·go_simp
     refine hK.out _ _ hx0 ?_
     refine pT ?_
     refine uQ ?_
     exact yK09a9
   ·go_simp
    refine hK.out _ _ hx0 ?_
    refine pT ?_
    refine uQ ?_
    refine zm rfl rfl rfl rfl (fun K hK=>?_) (fun K hK=>?_)
    ·go_simp
     refine (hSZ.out _ hx0).mono ?_
     rintro e w20 ⟨rfl,hx1⟩
     replace hx0:=hx0.trans hx1
     clear hx1
     exact yK09a3
    ·go_simp
     have hI:=zck (x:=0) (Blk.new wd 3 #[.int .i64 ((0:Nat):Int)])
     have hx1:=(Ext.refl wd).alloc (.cells #[.int .i64 ((0:Nat):Int)] 3)
     replace hx0:=hx0.trans hx1
     clear hx1
     refine hK.out _ _ hx0 ?_
     refine pT ?_
     generalize wd.alloc (.cells #[.int .i64 ((0:Nat):Int)] 3)=w20 at *
     generalize wd.heap.size=g1 at *
     exact yK09a9
end Go.Proofs.YtmjaepibdpfblaaGreatDoor
