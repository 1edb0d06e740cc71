/- spec.l9Spoil and spec.l12Draw, by their shape. | Plain: a search through words in their order (shorter first, then by letters); what it finds is the first word that leads to a goal. No program in sight. | Plain: how many steps a search has, and how many nodes. | Plain: the nodes to which a letter leads in systems that run together. No program in sight. | Plain: products of systems and automata as numbers; the nodes to which a letter leads. No program in sight. | BisimClasses of the program and of the reference, walked. | Plain: the greatest relation of a system to itself is an order, with -/
import Derived.Test.YtndhahednhnnbaaGreatDoorM04
import Derived.Test.YtndhahednhnnbaaGreatDoorM01
import Derived.Test.YtndhahednhnnbaaGreatDoorM02
import Derived.Deep.DeepCutAuto
import Derived.Deep.CutBlock
import Derived.Shelf.RegionOpenPlain
import Derived.Deep.LoopGhost
import Derived.Sort.WalkB12
import Derived.Lib.SlicesMore
import Derived.Laws.BytesArg
namespace Go.Proofs.YtndhahednhnnbaaGreatDoor
open Go Go.RowKit
set_option maxHeartbeats 4000000
theorem zgL {S:Nat→Prop} {w w':World}(h:Frm S w w') {p:Addr} {v:Value}(hv:w.cell? p=some v)(hp:¬ S p.block):w'.cell? p=some v:=
 (World.cell?_of_block (w:=w) (h.block _ (World.block_lt_of_cell? w p hv) hp)).trans hv
theorem zbl.own {w0 W:World} {R M L K n c k c2 m d m' d':Nat} {s t:Sys} {p:Aut} {A B B' C:Option Addr}(h:zbl w0 W R M L K s A n c t C k c2 p B m d B' m' d'):zbl W W R M L K s A n c t C k c2 p B m d B' m' d':={ h with dr:=Dr.refl _ _,hR:=h.rd.lt }
set_option maxRecDepth 100000 in
theorem spec_l9Spoil {R M L K n c k c2 m d m' d':Nat} {s t:Sys} {p:Aut} {A B B' C:Option Addr} {w:World}(h:zbl w w R M L K s A n c t C k c2 p B m d B' m' d')(hM:M≤600000000)(hL:L≤90000)(hK:K≤60) :
  Calls Tryz.prog 57 #[.pointer (some ⟨R,0,none⟩),.agg #[.int .i64 s.al,.int .i64 s.st,.slice A n c],.agg #[.int .i64 p.al,.slice B m d,.slice B' m' d'],.agg #[.int .i64 t.al,.int .i64 t.st,.slice C k c2]] w (RetSPT R (M+100) (L+3) (K+39) w):=by
 have hRl:=h.hR
 have hx0:Ext w ((((((w.alloc (.cells #[.int .i64 s.al,.int .i64 s.st,.slice A n c] 39)).alloc (.cells #[.int .i64 p.al,.slice B m d,.slice B' m' d'] 27)).alloc (.cells #[.int .i64 t.al,.int .i64 t.st,.slice C k c2] 39)).alloc (.cells #[.int .i64 0,.int .i64 0,.slice none 0 0] 39)).alloc (.cells #[.int .i64 0,.slice none 0 0,.slice none 0 0] 27)).alloc (.cells #[.int .i64 0,.int .i64 0,.slice none 0 0] 39)):=((((((Ext.refl _).alloc _).alloc _).alloc _).alloc _).alloc _).alloc _
 obtain⟨b1,b2,b3⟩:=zU (Ext.refl (((w.alloc (.cells #[.int .i64 s.al,.int .i64 s.st,.slice A n c] 39)).alloc (.cells #[.int .i64 p.al,.slice B m d,.slice B' m' d'] 27)).alloc (.cells #[.int .i64 t.al,.int .i64 t.st,.slice C k c2] 39)))
 go_enter Tryz.func57,Tryz.ntmps57
 go_upto_region 1 with fail
 have hsz:(((w.alloc (.cells #[.int .i64 s.al,.int .i64 s.st,.slice A n c] 39)).alloc (.cells #[.int .i64 p.al,.slice B m d,.slice B' m' d'] 27)).alloc (.cells #[.int .i64 t.al,.int .i64 t.st,.slice C k c2] 39)).heap.size=w.heap.size+3:=by simp
 generalize ((w.alloc (.cells #[.int .i64 s.al,.int .i64 s.st,.slice A n c] 39)).alloc (.cells #[.int .i64 p.al,.slice B m d,.slice B' m' d'] 27)).alloc (.cells #[.int .i64 t.al,.int .i64 t.st,.slice C k c2] 39)=w0 at *
 obtain⟨z1,z2,z3⟩:=zU (Ext.refl (((w0.alloc (.cells #[.int .i64 0,.int .i64 0,.slice none 0 0] 39)).alloc (.cells #[.int .i64 0,.slice none 0 0,.slice none 0 0] 27)).alloc (.cells #[.int .i64 0,.int .i64 0,.slice none 0 0] 39)))
 have hx1:Ext w0 (((w0.alloc (.cells #[.int .i64 0,.int .i64 0,.slice none 0 0] 39)).alloc (.cells #[.int .i64 0,.slice none 0 0,.slice none 0 0] 27)).alloc (.cells #[.int .i64 0,.int .i64 0,.slice none 0 0] 39)):=(((Ext.refl _).alloc _).alloc _).alloc _
 generalize ((w0.alloc (.cells #[.int .i64 0,.int .i64 0,.slice none 0 0] 39)).alloc (.cells #[.int .i64 0,.slice none 0 0,.slice none 0 0] 27)).alloc (.cells #[.int .i64 0,.int .i64 0,.slice none 0 0] 39)=w1 at *
 simp only [hsz] at z1 z2 z3
 have ht0:Tri w w1 R M L K (w.heap.size+1+1+1) (w.heap.size+1+1+1+1+1) (w.heap.size+1+1+1+1) w.heap.size (w.heap.size+1+1) (w.heap.size+1) s A n c t C k c2 p B m d B' m' d':=
  ⟨h.ext hx0,z1,z3,z2,b1.ext hx1,b3.ext hx1,.inr (b2.ext hx1),by omega,hide (by unfold Ne6;omega)⟩
 have hsz1:=hx0.size
 clear z1 z2 z3 b1 b2 b3 hx0 hx1 h hsz
 have hge:=hide (show w.heap.size+1≠0 by omega)
 have hne:=hide (show Ne6 (w.heap.size+1+1+1) (w.heap.size+1+1+1+1+1) (w.heap.size+1+1+1+1) w.heap.size (w.heap.size+1+1) (w.heap.size+1) by unfold Ne6;omega)
 generalize hZt:w.heap.size+1+1+1+1+1=Zt at *
 generalize hZp:w.heap.size+1+1+1+1=Zp at *
 generalize hZs:w.heap.size+1+1+1=Zs at *
 generalize hGt:w.heap.size+1+1=Gt at *
 generalize hGp:w.heap.size+1=Gp at *
 generalize hGs:w.heap.size=Gs at *
 have hord:=hide (show w.heap.size≤Zs∧w.heap.size≤Zt∧w.heap.size≤Zp by omega)
 clear hZt hZp hZs hGt hGp hGs hsz1
 go_wp2_with fail
 refine (zn ht0.at_.rd (by omega)).mono ?_
 rintro e w2 ⟨y,rfl,-,-,hr2,hd2⟩
 have ht1:=ht0.drawn hd2 hr2
 clear ht0 hr2 hd2
 go_upto_block 0 with fail
 go_cut [] (fun wx=>∃ (s:Sys) (A:Option Addr) (n c:Nat) (t:Sys) (C:Option Addr) (k c2:Nat) (p:Aut) (B:Option Addr) (m d:Nat) (B':Option Addr) (m' d':Nat),Tri w wx R (M+100) (L+3) (K+39) (Zs) (Zt) (Zp) Gs (Gt) (Gp) s A n c t C k c2 p B m d B' m' d')
 case first =>
  have hcases:y=0∨y=1∨y=2∨3≤y:=by omega
  rcases hcases with hy|hy|hy|hy
  ·subst hy
   have hy0:True:=trivial
   have cG:=ht1.bs.cell
   go_wp2_with fail
   refine (zak (L:=L) ht1.at_.rd (by omega) ht1.at_.is ht1.at_.ns.1.1 (by omega)).mono ?_
   rintro e v1 ⟨s1,A1,n1,d1,rfl,hs1,hn1,hr1,hd1⟩
   have ht2:=ht1.drawn hd1 hr1
   clear cG
   go_wp2_with fail
   refine (zak (L:=L+1) ht2.at_.rd (by omega) hs1 hn1.1 (by omega)).mono ?_
   rintro e v2 ⟨s2,A2,n2,d2,rfl,hs2,hn2,hr2,hd2⟩
   have ht3:=ht2.drawn hd2 hr2
   go_wp2_with fail
   refine (zak (L:=L+2) ht3.at_.rd (by omega) hs2 hn2.1 (by omega)).mono ?_
   rintro e v3 ⟨s3,A3,n3,d3,rfl,hs3,hn3,hr3,hd3⟩
   have ht4:=(ht3.drawn hd3 hr3).more (N:=M+100) (J:=L+3) (H:=K+39) (by omega) (by omega) (by omega)
   have cG:=ht4.bs.cell
   have fG:=ht4.bs.frozen
   have fin:=ht4.setS hs3 hn3
   go_wp2_with fail
   go_meet
   exact⟨_,_,_,_,_,_,_,_,_,_,_,_,_,_,_,fin⟩
  ·subst hy
   have hy0:True:=trivial
   have hp1:=hge.out
   have cG:=(ht1.pvar hp1).cell
   go_wp2_with fail
   refine (zbq ht1.at_.rd (by omega) ht1.at_.ip ht1.at_.bd.out (by omega)).mono ?_
   rintro e v1 ⟨b1,A1,n1,d1,B1,m1,e1,rfl,ho1,hb1,hr1,hd1⟩
   have ht2:=ht1.drawn hd1 hr1
   have hq1:=ht1.at_.rd.lt
   have hq2:=ht2.at_.rd.lt
   clear cG
   go_wp2_with fail
   refine (zbq hr1 (by omega) (ho1.less (by omega)) hb1.out (by omega)).mono ?_
   rintro e v2 ⟨b2,A2,n2,d2,B2,m2,e2,rfl,ho2,hb2,hr2,hd2⟩
   have ht3:=ht2.drawn hd2 hr2
   have hq3:=ht3.at_.rd.lt
   go_wp2_with fail
   refine (zbq hr2 (by omega) (ho2.less (by omega)) hb2.out (by omega)).mono ?_
   rintro e v3 ⟨b3,A3,n3,d3,B3,m3,e3,rfl,ho3,hb3,hr3,hd3⟩
   have ht4:=(ht3.drawn hd3 hr3).more (N:=M+100) (J:=L+3) (H:=K+39) (by omega) (by omega) (by omega)
   have cG:=(ht4.pvar hp1).cell
   have fG:=(ht4.pvar hp1).frozen
   have fin:=ht4.setP hp1 (ho3.less (by omega)) (BdL.more hb3.out (by omega))
   go_wp2_with fail
   go_meet
   exact⟨_,_,_,_,_,_,_,_,_,_,_,_,_,_,_,fin⟩
  ·subst hy
   have hy0:True:=trivial
   have cG:=ht1.bt.cell
   go_wp2_with fail
   refine (zak (L:=L) ht1.at_.rd (by omega) ht1.at_.it ht1.at_.ns.2.1 (by omega)).mono ?_
   rintro e v1 ⟨s1,A1,n1,d1,rfl,hs1,hn1,hr1,hd1⟩
   have ht2:=ht1.drawn hd1 hr1
   clear cG
   go_wp2_with fail
   refine (zak (L:=L+1) ht2.at_.rd (by omega) hs1 hn1.1 (by omega)).mono ?_
   rintro e v2 ⟨s2,A2,n2,d2,rfl,hs2,hn2,hr2,hd2⟩
   have ht3:=ht2.drawn hd2 hr2
   go_wp2_with fail
   refine (zak (L:=L+2) ht3.at_.rd (by omega) hs2 hn2.1 (by omega)).mono ?_
   rintro e v3 ⟨s3,A3,n3,d3,rfl,hs3,hn3,hr3,hd3⟩
   have ht4:=(ht3.drawn hd3 hr3).more (N:=M+100) (J:=L+3) (H:=K+39) (by omega) (by omega) (by omega)
   have cG:=ht4.bt.cell
   have fG:=ht4.bt.frozen
   have fin:=ht4.setT hs3 hn3
   go_wp2_with fail
   go_meet
   exact⟨_,_,_,_,_,_,_,_,_,_,_,_,_,_,_,fin⟩
  ·have h0:((y:Int)==0)=false:=by simp;omega
   have h1:((y:Int)==1)=false:=by simp;omega
   have h2:((y:Int)==2)=false:=by simp;omega
   go_wp2_with fail
   go_meet
   exact⟨_,_,_,_,_,_,_,_,_,_,_,_,_,_,_,ht1.more (by omega) (by omega) (by omega)⟩
 case rest =>
  clear ht1
  obtain⟨s,A,n,c,t,C,k,c2,p,B,m,d,B',m',d',ht⟩:=hcut
  have hp1:=hge.out
  obtain⟨wE,hwE⟩:∃ wE,wE=wc:=⟨_,rfl⟩
  subst hwE
  have cS:∀ W,Frm (fun k=>k=Zs∨k=Zp) wE W→∀ q,W.cell? ⟨Gs,q,none⟩=#[Value.int .i64 s.al,.int .i64 s.st,.slice A n c][q]?:=fun W hW=>(ht.bs.frm hW (by have:=hne.out;unfold Ne6 at this;omega)).cell
  have cT:∀ W,Frm (fun k=>k=Zs∨k=Zp) wE W→∀ q,W.cell? ⟨Gt,q,none⟩=#[Value.int .i64 t.al,.int .i64 t.st,.slice C k c2][q]?:=fun W hW=>(ht.bt.frm hW (by have:=hne.out;unfold Ne6 at this;omega)).cell
  have cP:∀ W,Frm (fun k=>k=Zs∨k=Zp) wE W→∀ q,W.cell? ⟨Gp,q,none⟩=#[Value.int .i64 p.al,.slice B m d,.slice B' m' d'][q]?:=fun W hW=>((ht.pvar hp1).frm hW (by have:=hne.out;unfold Ne6 at this;omega)).cell
  have hS0:Frm (fun k=>k=Zs∨k=Zp) wE wE.drew:=(Ext.refl wE).drew.toFrm
  have ht5:=ht.ext (Ext.refl wE).drew
  go_wp2_with fail
  refine tR (fun X=>Frm (fun k=>k=Zs∨k=Zp) wE X) [5] (Ord.of [0,1,2,3,4,5]) ?_
  refine tQ ?_
  generalize hwD:wE.drew=wD at *
  clear hwD
  have ha:=ht5.at_
  have zs:=ht5.zs
  have zt:=ht5.zt
  have zp:=ht5.zp
  have cs:=zs.cell
  have fs:=zs.frozen
  have hn6:=hide hne.out
  clear ht5 ht
  (refine zj rfl rfl rfl (fun K hK=>?_);go_simp)
  have q1:=zap zs rfl (.int .i64 s.al) (.int .i64 s.st) (.slice A n c)
  have e1:=zZ wD Zs (.int .i64 s.al) (.int .i64 s.st) (.slice A n c)
  replace ha:=ha.far zs e1 hord.out.1 (by decide) (by decide)
  replace zt:=zt.frm e1 (by have:=hn6.out;unfold Ne6 at this;omega)
  replace zp:=zp.frm e1 (by have:=hn6.out;unfold Ne6 at this;omega)
  have hS8:=hS0.trans (e1.mono (T:=fun k=>k=Zs∨k=Zp) (fun k _ hk=>.inl hk))
  refine hK.out _ _ hS8 ?_
  refine pT ?_
  clear cs fs zs e1
  generalize ((wD.setCell ⟨Zs,0,none⟩ (.int .i64 s.al)).setCell ⟨Zs,1,none⟩ (.int .i64 s.st)).setCell ⟨Zs,2,none⟩ (.slice A n c)=wA at *
  have cp:=zp.cell
  have fp:=zp.frozen
  (refine zj rfl rfl rfl (fun K hK=>?_);go_simp)
  have q2:=zap zp rfl (.int .i64 p.al) (.slice B m d) (.slice B' m' d')
  have e2:=zZ wA Zp (.int .i64 p.al) (.slice B m d) (.slice B' m' d')
  replace ha:=ha.far zp e2 hord.out.2.2 (by decide) (by decide)
  replace zt:=zt.frm e2 (by have:=hn6.out;unfold Ne6 at this;omega)
  replace q1:=q1.frm e2 (by have:=hn6.out;unfold Ne6 at this;omega)
  have hS9:=hS8.trans (e2.mono (T:=fun k=>k=Zs∨k=Zp) (fun k _ hk=>.inr hk))
  refine hK.out _ _ hS9 ?_
  refine pT ?_
  clear cp fp zp e2 hS8
  generalize ((wA.setCell ⟨Zp,0,none⟩ (.int .i64 p.al)).setCell ⟨Zp,1,none⟩ (.slice B m d)).setCell ⟨Zp,2,none⟩ (.slice B' m' d')=wB at *
  have ct:=zt.cell
  have ft:=zt.frozen
  (refine zy rfl rfl rfl rfl (fun K hK=>?_))
  go_simp
  have q3:=zap zt rfl (.int .i64 t.al) (.int .i64 t.st) (.slice C k c2)
  have e3:=zZ wB Zt (.int .i64 t.al) (.int .i64 t.st) (.slice C k c2)
  replace ha:=ha.far zt e3 hord.out.2.1 (by decide) (by decide)
  replace q1:=q1.frm e3 (by have:=hn6.out;unfold Ne6 at this;omega)
  replace q2:=q2.frm e3 (by have:=hn6.out;unfold Ne6 at this;omega)
  refine hK.out _ _ ?_
  refine zG ?_
  clear ct ft zt e3 hS9 hS0 cS cT cP
  generalize ((wB.setCell ⟨Zt,0,none⟩ (.int .i64 t.al)).setCell ⟨Zt,1,none⟩ (.int .i64 t.st)).setCell ⟨Zt,2,none⟩ (.slice C k c2)=wC at *
  have ha':=hide ha
  clear ha
  go_wp2_with fail
  have c1:=q1.cell
  have cc2:=q2.cell
  have c3:=q3.cell
  exact bodyPost_ret (v:=.tuple #[.agg #[.int .i64 s.al,.int .i64 s.st,.slice A n c],.agg #[.int .i64 p.al,.slice B m d,.slice B' m' d'],.agg #[.int .i64 t.al,.int .i64 t.st,.slice C k c2]]) (by simp [results,Tryz.results57,go_sem,c1,cc2,c3]) rfl ⟨s,A,n,c,t,C,k,c2,p,B,m,d,B',m',d',rfl,ha'.out⟩
set_option maxRecDepth 100000 in
theorem spec_l12Draw {R M:Nat} {w:World}(h:Rd w R M)(hM:M≤500000000) :
  Calls Tryz.prog 54 #[.pointer (some ⟨R,0,none⟩)] w (RetSTP R (M+200000) 30000 50 w):=by
 have hRl:=h.lt
 have hx0:Ext w (((w.alloc (.cells #[.int .i64 0,.int .i64 0,.slice none 0 0] 39)).alloc (.cells #[.int .i64 0,.int .i64 0,.slice none 0 0] 39)).alloc (.cells #[.int .i64 0,.slice none 0 0,.slice none 0 0] 27)):=(((Ext.refl _).alloc _).alloc _).alloc _
 obtain⟨z1,z2,z3⟩:=zU (Ext.refl (((w.alloc (.cells #[.int .i64 0,.int .i64 0,.slice none 0 0] 39)).alloc (.cells #[.int .i64 0,.int .i64 0,.slice none 0 0] 39)).alloc (.cells #[.int .i64 0,.slice none 0 0,.slice none 0 0] 27)))
 have hsz:(((w.alloc (.cells #[.int .i64 0,.int .i64 0,.slice none 0 0] 39)).alloc (.cells #[.int .i64 0,.int .i64 0,.slice none 0 0] 39)).alloc (.cells #[.int .i64 0,.slice none 0 0,.slice none 0 0] 27)).heap.size=w.heap.size+3:=by simp
 go_enter Tryz.func54,Tryz.ntmps54
 go_upto_region 1 with fail
 generalize ((w.alloc (.cells #[.int .i64 0,.int .i64 0,.slice none 0 0] 39)).alloc (.cells #[.int .i64 0,.int .i64 0,.slice none 0 0] 39)).alloc (.cells #[.int .i64 0,.slice none 0 0,.slice none 0 0] 27)=w0 at *
 go_upto_region 2 with (first
  |(go_at_call 105;refine (spec_l9Three (h.ext hx0) (by omega)).mono ?_;rintro e w1 ⟨s,A,n,c,t,C,k,c2,p,B,m,d,B',m',d',rfl,ht⟩))
 have hx1:Ext w1 (((w1.alloc (.cells #[.int .i64 s.al,.int .i64 s.st,.slice A n c] 39)).alloc (.cells #[.int .i64 p.al,.slice B m d,.slice B' m' d'] 27)).alloc (.cells #[.int .i64 t.al,.int .i64 t.st,.slice C k c2] 39)):=(((Ext.refl _).alloc _).alloc _).alloc _
 obtain⟨b1,b2,b3⟩:=zU (Ext.refl (((w1.alloc (.cells #[.int .i64 s.al,.int .i64 s.st,.slice A n c] 39)).alloc (.cells #[.int .i64 p.al,.slice B m d,.slice B' m' d'] 27)).alloc (.cells #[.int .i64 t.al,.int .i64 t.st,.slice C k c2] 39)))
 have hw1:=ht.dr.size
 have ht1:Tri w (((w1.alloc (.cells #[.int .i64 s.al,.int .i64 s.st,.slice A n c] 39)).alloc (.cells #[.int .i64 p.al,.slice B m d,.slice B' m' d'] 27)).alloc (.cells #[.int .i64 t.al,.int .i64 t.st,.slice C k c2] 39)) R (M+150000) 30000 50 w.heap.size (w.heap.size+1) (w.heap.size+1+1) w1.heap.size (w1.heap.size+1+1) (w1.heap.size+1) s A n c t C k c2 p B m d B' m' d':=
  ⟨((ht.less hx0.dr hRl).ext hx1).more (by omega) (by omega) (by omega),(z1.dr ht.dr (by omega)).ext hx1,(z2.dr ht.dr (by omega)).ext hx1,(z3.dr ht.dr (by omega)).ext hx1,b1,b3,.inr b2,by omega,hide (by unfold Ne6;omega)⟩
 clear ht b1 b2 b3 z1 z2 z3 hx1
 have hge:=hide (show w.heap.size+3≤w1.heap.size by omega)
 have hG3:(((w1.alloc (.cells #[.int .i64 s.al,.int .i64 s.st,.slice A n c] 39)).alloc (.cells #[.int .i64 p.al,.slice B m d,.slice B' m' d'] 27)).alloc (.cells #[.int .i64 t.al,.int .i64 t.st,.slice C k c2] 39)).heap.size=w1.heap.size+3:=by simp
 clear hw1
 generalize hG:w1.heap.size=G at *
 generalize ((w1.alloc (.cells #[.int .i64 s.al,.int .i64 s.st,.slice A n c] 39)).alloc (.cells #[.int .i64 p.al,.slice B m d,.slice B' m' d'] 27)).alloc (.cells #[.int .i64 t.al,.int .i64 t.st,.slice C k c2] 39)=w2 at *
 clear hG w1
 go_wp2_with fail
 refine (zn ht1.at_.rd (by omega)).mono ?_
 rintro e w3 ⟨y,rfl,-,-,hr3,hd3⟩
 have ht2:=ht1.drawn hd3 hr3
 have hge2:=hide (show G+3≤w3.heap.size by have:=hd3.size;omega)
 clear ht1 hr3 hd3 hG3
 go_upto_if 18 with fail
 go_cut [] (fun wx=>∃ (s:Sys) (A:Option Addr) (n c:Nat) (t:Sys) (C:Option Addr) (k c2:Nat) (p:Aut) (B:Option Addr) (m d:Nat) (B':Option Addr) (m' d':Nat),Tri w wx R (M+200000) 30000 50 w.heap.size (w.heap.size+1) (w.heap.size+1+1) G (G+1+1) (G+1) s A n c t C k c2 p B m d B' m' d')
 case first =>
  by_cases hy:y=0
  ·subst hy
   have hy0:True:=trivial
   have hp1:G+1≠0:=by omega
   go_wp2_with fail
   refine (zhc).mono ?_
   rintro e w4 ⟨g,rfl,hg,hT,hx4⟩
   have ht3:=ht2.ext hx4
   have hq:=ht2.at_.rd.lt
   clear ht2
   have hsz4:=hx4.size
   go_wp2_with fail
   refine (zn ht3.at_.rd (by omega)).mono ?_
   rintro e w5 ⟨j,rfl,hj,-,hr5,hd5⟩
   have hj9:j<9:=by have:=hj (by omega);omega
   have ht4:=ht3.drawn hd5 hr5
   obtain⟨bt,lt,hct,hl3,hs3,hot⟩:=hT j hj9
   have ct5:=hd5.cell_some hct (by dsimp only;omega)
   have hot5:=zbz hot hd5 (fun b h1 e=>by omega)
   have hj9':(j:Int)<9:=by omega
   clear hj hT hct hot ht3
   have hbt:w3.heap.size≤bt:=(hot5.lt bt rfl).1
   obtain⟨ad0,x0,e0,_,_,hx0',cx0⟩:=(Reads.of_own hot5).str (show 0<3 by omega)
   obtain⟨ad1,x1,e1,_,_,hx1',cx1⟩:=(Reads.of_own hot5).str (show 1<3 by omega)
   obtain⟨ad2,x2,e2,_,_,hx2',cx2⟩:=(Reads.of_own hot5).str (show 2<3 by omega)
   obtain rfl:=Option.some.inj e0
   obtain rfl:=Option.some.inj e1
   obtain rfl:=Option.some.inj e2
   have hx0s:=hs3.1 x0 (List.mem_of_getElem? hx0'.out)
   have hx1s:=hs3.1 x1 (List.mem_of_getElem? hx1'.out)
   have hx2s:=hs3.2 x2 hx2'.out
   rw [zL,Nat.zero_add] at cx0 cx1 cx2
   clear e0 e1 e2 hx0' hx1' hx2' hs3 hl3 hot5
   go_wp2_with fail
   refine (zbS ht4.at_.rd (by omega)).mono ?_
   rintro e w6 ⟨s1,A1,n1,c1,ok,rfl,hs1,⟨-,hf1⟩,hn1,hr6,hd6⟩
   have hRG:=hide (show R<w.heap.size from hRl)
   have ht5:=ht4.drawn hd6 hr6
   have cG:=ht5.bs.cell
   have fG:=ht5.bs.frozen
   have fin:=ht5.setS hs1 (by omega:n1≤30000∧n1≤c1)
   have f1:=zZ w6 G (.int .i64 s1.al) (.int .i64 s1.st) (.slice A1 n1 c1)
   have kx1:=(hd6.cell_some cx1 (by have:=hge2.out;have:=hge.out;dsimp only;omega))
   have kx2:=(hd6.cell_some cx2 (by have:=hge2.out;have:=hge.out;dsimp only;omega))
   have kt:=(hd6.cell_some ct5 (by have:=hge2.out;have:=hge.out;dsimp only;omega))
   have lx1:=zgL f1 kx1 (by have:=hge2.out;dsimp only;omega)
   have lx2:=zgL f1 kx2 (by have:=hge2.out;dsimp only;omega)
   clear cx0 cx1 cx2 ct5 kx1 kx2 kt ht4 ht5 f1 hd6 hr6
   go_upto_region 6 with fail
   clear cG fG
   generalize ((w6.setCell ⟨G,0,none⟩ (.int .i64 s1.al)).setCell ⟨G,1,none⟩ (.int .i64 s1.st)).setCell ⟨G,2,none⟩ (.slice A1 n1 c1)=w7 at *
   go_wp2_with fail
   refine (zbS fin.at_.rd (by omega)).mono ?_
   rintro e w8 ⟨s2,A2,n2,d2,ok2,rfl,hs2,⟨-,hf2⟩,hn2,hr8,hd8⟩
   have ht6:=fin.drawn hd8 hr8
   have cG:=ht6.bt.cell
   have fG:=ht6.bt.frozen
   have fin2:=ht6.setT hs2 (by omega:n2≤30000∧n2≤d2)
   have f2:=zZ w8 (G+1+1) (.int .i64 s2.al) (.int .i64 s2.st) (.slice A2 n2 d2)
   have kx2:=(hd8.cell_some lx2 (by have:=hge2.out;have:=hge.out;dsimp only;omega))
   have mx2:=zgL f2 kx2 (by have:=hge2.out;dsimp only;omega)
   clear lx1 lx2 kx2 fin ht6 f2 hd8 hr8
   go_upto_region 7 with fail
   clear cG fG
   generalize ((w8.setCell ⟨G+1+1,0,none⟩ (.int .i64 s2.al)).setCell ⟨G+1+1,1,none⟩ (.int .i64 s2.st)).setCell ⟨G+1+1,2,none⟩ (.slice A2 n2 d2)=w9 at *
   go_wp2_with fail
   refine (zdT fin2.at_.rd (by omega)).mono ?_
   rintro e w10 ⟨b1,A3,n3,d3,A4,n4,d4,ok3,rfl,ho3,hb3,hr10,hd10⟩
   have hq9:=fin2.at_.rd.lt
   have ht7:=fin2.drawn hd10 hr10
   have cG:=(ht7.pvar hp1).cell
   have fG:=(ht7.pvar hp1).frozen
   have fin3:=ht7.setP hp1 (ho3.less (by omega)) (BdL.more hb3.out (by omega))
   clear mx2 fin2 ht7 hd10 hr10 ho3
   go_upto_region 8 with fail
   clear cG fG
   generalize ((w10.setCell ⟨G+1,0,none⟩ (.int .i64 b1.al)).setCell ⟨G+1,1,none⟩ (.slice A3 n3 d3)).setCell ⟨G+1,2,none⟩ (.slice A4 n4 d4)=w11 at *
   go_wp2_with fail
   refine (zn fin3.at_.rd (by omega)).mono ?_
   rintro e w12 ⟨y,rfl,-,-,hr12,hd12⟩
   have ht8:=fin3.drawn hd12 hr12
   clear fin3 hr12 hd12
   have hcases:y=0∨y=1∨y=2∨3≤y:=by omega
   rcases hcases with hy|hy|hy|hy
   ·subst hy
    have cG:=ht8.bs.cell
    go_wp2_with fail
    refine (zdC (L:=1001) ht8.at_.rd (by omega) ht8.at_.is hf1 (by omega) (by omega)).mono ?_
    rintro e w13 ⟨s5,A5,n5,d5,rfl,hs5,hn5,hr13,hd13⟩
    have ht9:=(ht8.drawn hd13 hr13).more (N:=M+200000) (J:=30000) (H:=50) (by omega) (by omega) (by omega)
    clear cG
    have cG:=ht9.bs.cell
    have fG:=ht9.bs.frozen
    have fin:=ht9.setS hs5 (by omega:n5≤30000∧n5≤d5)
    go_wp2_with fail
    go_meet
    exact⟨_,_,_,_,_,_,_,_,_,_,_,_,_,_,_,fin⟩
   ·subst hy
    have cG:=ht8.bt.cell
    go_wp2_with fail
    refine (zdC (L:=1001) ht8.at_.rd (by omega) ht8.at_.it hf2 (by omega) (by omega)).mono ?_
    rintro e w13 ⟨s5,A5,n5,d5,rfl,hs5,hn5,hr13,hd13⟩
    have ht9:=(ht8.drawn hd13 hr13).more (N:=M+200000) (J:=30000) (H:=50) (by omega) (by omega) (by omega)
    clear cG
    have cG:=ht9.bt.cell
    have fG:=ht9.bt.frozen
    have fin:=ht9.setT hs5 (by omega:n5≤30000∧n5≤d5)
    go_wp2_with fail
    go_meet
    exact⟨_,_,_,_,_,_,_,_,_,_,_,_,_,_,_,fin⟩
   ·subst hy
    have cG:=(ht8.pvar hp1).cell
    go_wp2_with fail
    refine (zem (L:=x2.size+1) ht8.at_.rd (by omega) ht8.at_.ip hb3.out (by omega)).mono ?_
    rintro e w13 ⟨b5,A5,n5,d5,A6,n6,d6,rfl,ho5,hb5,hr13,hd13⟩
    have hq:=ht8.at_.rd.lt
    have ht9:=(ht8.drawn hd13 hr13).more (N:=M+200000) (J:=30000) (H:=50) (by omega) (by omega) (by omega)
    clear cG
    have cG:=(ht9.pvar hp1).cell
    have fG:=(ht9.pvar hp1).frozen
    have fin:=ht9.setP hp1 (ho5.less (by omega)) (BdL.more hb5.out (by omega))
    go_wp2_with fail
    go_meet
    exact⟨_,_,_,_,_,_,_,_,_,_,_,_,_,_,_,fin⟩
   ·have h0:((y:Int)==0)=false:=by simp;omega
    have h1:((y:Int)==1)=false:=by simp;omega
    have h2:((y:Int)==2)=false:=by simp;omega
    go_wp2_with fail
    go_meet
    exact⟨_,_,_,_,_,_,_,_,_,_,_,_,_,_,_,ht8.more (by omega) (by omega) (by omega)⟩
  ·have hy':((y:Int)==0)=false:=by simp;omega
   go_wp2_with fail
   go_meet
   exact⟨_,_,_,_,_,_,_,_,_,_,_,_,_,_,_,ht2.more (by omega) (by omega) (by omega)⟩
 case rest =>
  clear ht2
  obtain⟨s,A,n,c,t,C,k,c2,p,B,m,d,B',m',d',ht⟩:=hcut
  have hp1:G+1≠0:=by omega
  have hord:Hid (G+3≤wc.heap.size∧w.heap.size+3≤G):=hide ⟨by have:=(ht.bt).lt;omega,hge.out⟩
  obtain⟨wE,hwE⟩:∃ wE,wE=wc:=⟨_,rfl⟩
  subst hwE
  have cS:∀ W,Frm (fun k=>k=w.heap.size∨k=w.heap.size+1) wE W→∀ q,W.cell? ⟨G,q,none⟩=#[Value.int .i64 s.al,.int .i64 s.st,.slice A n c][q]?:=fun W hW=>(ht.bs.frm hW (by have:=hord.out;omega)).cell
  have cT:∀ W,Frm (fun k=>k=w.heap.size∨k=w.heap.size+1) wE W→∀ q,W.cell? ⟨G+1+1,q,none⟩=#[Value.int .i64 t.al,.int .i64 t.st,.slice C k c2][q]?:=fun W hW=>(ht.bt.frm hW (by have:=hord.out;omega)).cell
  have cP:∀ W,Frm (fun k=>k=w.heap.size∨k=w.heap.size+1) wE W→∀ q,W.cell? ⟨G+1,q,none⟩=#[Value.int .i64 p.al,.slice B m d,.slice B' m' d'][q]?:=fun W hW=>((ht.pvar hp1).frm hW (by have:=hord.out;omega)).cell
  have hS0:Frm (fun k=>k=w.heap.size∨k=w.heap.size+1) wE wE.drew:=(Ext.refl wE).drew.toFrm
  have ht5:=ht.ext (Ext.refl wE).drew
  go_wp2_with fail
  refine tR (fun X=>Frm (fun k=>k=w.heap.size∨k=w.heap.size+1) wE X) [5] (Ord.of [0,1,2,3,4,5]) ?_
  refine tQ ?_
  generalize hwD:wE.drew=wD at *
  clear hwD
  have ha:=ht5.at_
  have zs:=ht5.zs
  have zt:=ht5.zt
  have zp:=ht5.zp
  have cs:=zs.cell
  have fs:=zs.frozen
  clear ht5 ht
  (refine zj rfl rfl rfl (fun K hK=>?_);go_simp)
  have q1:=zap zs rfl (.int .i64 s.al) (.int .i64 s.st) (.slice A n c)
  have e1:=zZ wD w.heap.size (.int .i64 s.al) (.int .i64 s.st) (.slice A n c)
  replace ha:=ha.far zs e1 (by omega) (by decide) (by decide)
  replace zt:=zt.frm e1 (by omega)
  replace zp:=zp.frm e1 (by omega)
  have hS8:=hS0.trans (e1.mono (T:=fun k=>k=w.heap.size∨k=w.heap.size+1) (fun k _ hk=>.inl hk))
  refine hK.out _ _ hS8 ?_
  refine pT ?_
  clear cs fs zs e1
  generalize ((wD.setCell ⟨w.heap.size,0,none⟩ (.int .i64 s.al)).setCell ⟨w.heap.size,1,none⟩ (.int .i64 s.st)).setCell ⟨w.heap.size,2,none⟩ (.slice A n c)=wA at *
  have ct:=zt.cell
  have ft:=zt.frozen
  (refine zj rfl rfl rfl (fun K hK=>?_);go_simp)
  have q2:=zap zt rfl (.int .i64 t.al) (.int .i64 t.st) (.slice C k c2)
  have e2:=zZ wA (w.heap.size+1) (.int .i64 t.al) (.int .i64 t.st) (.slice C k c2)
  replace ha:=ha.far zt e2 (by omega) (by decide) (by decide)
  replace zp:=zp.frm e2 (by omega)
  replace q1:=q1.frm e2 (by omega)
  have hS9:=hS8.trans (e2.mono (T:=fun k=>k=w.heap.size∨k=w.heap.size+1) (fun k _ hk=>.inr hk))
  refine hK.out _ _ hS9 ?_
  refine pT ?_
  clear ct ft zt e2 hS8
  generalize ((wA.setCell ⟨w.heap.size+1,0,none⟩ (.int .i64 t.al)).setCell ⟨w.heap.size+1,1,none⟩ (.int .i64 t.st)).setCell ⟨w.heap.size+1,2,none⟩ (.slice C k c2)=wB at *
  have cp:=zp.cell
  have fp:=zp.frozen
  (refine zy rfl rfl rfl rfl (fun K hK=>?_))
  go_simp
  have q3:=zap zp rfl (.int .i64 p.al) (.slice B m d) (.slice B' m' d')
  have e3:=zZ wB (w.heap.size+1+1) (.int .i64 p.al) (.slice B m d) (.slice B' m' d')
  replace ha:=ha.far zp e3 (by omega) (by decide) (by decide)
  replace q1:=q1.frm e3 (by omega)
  replace q2:=q2.frm e3 (by omega)
  refine hK.out _ _ ?_
  refine zG ?_
  clear cp fp zp e3 hS9 hS0 cS cT cP
  generalize ((wB.setCell ⟨w.heap.size+1+1,0,none⟩ (.int .i64 p.al)).setCell ⟨w.heap.size+1+1,1,none⟩ (.slice B m d)).setCell ⟨w.heap.size+1+1,2,none⟩ (.slice B' m' d')=wC at *
  have ha':=hide ha
  clear ha
  go_wp2_with fail
  have c1:=q1.cell
  have cc2:=q2.cell
  have c3:=q3.cell
  exact bodyPost_ret (v:=.tuple #[.agg #[.int .i64 s.al,.int .i64 s.st,.slice A n c],.agg #[.int .i64 t.al,.int .i64 t.st,.slice C k c2],.agg #[.int .i64 p.al,.slice B m d,.slice B' m' d']]) (by simp [results,Tryz.results54,go_sem,c1,cc2,c3]) rfl ⟨s,A,n,c,t,C,k,c2,p,B,m,d,B',m',d',rfl,ha'.out⟩
def wval (w:List Nat):Nat:=w.foldl (fun v l=>v*7+(l+1)) 0
theorem zaz (w:List Nat) (l:Nat):wval (w++[l])=wval w*7+(l+1):=by simp [wval]
theorem zer:wval []=0:=rfl
theorem zan {α:Type} (w:List α):w=[]∨∃ u l,w=u++[l]:=by
 rcases List.eq_nil_or_concat w with h|⟨u,l,h⟩
 ·exact Or.inl h
 ·exact Or.inr ⟨u,l,by simpa using h⟩
theorem wval_inj:∀ (n:Nat) (u v:List Nat),u.length≤n→(∀ l∈u,l<6)→(∀ l∈v,l<6)→wval u=wval v→u=v:=by
 intro n
 induction n with
 |zero =>
  intro u v hu _ _ h
  obtain rfl:u=[]:=List.eq_nil_of_length_eq_zero (by omega)
  rcases zan v with rfl|⟨v,m,rfl⟩
  ·rfl
  ·rw [zaz,zer] at h;omega
 |succ n ih =>
  intro u v hu h1 h2 h
  rcases zan u with rfl|⟨u,l,rfl⟩
  ·rcases zan v with rfl|⟨v,m,rfl⟩
   ·rfl
   ·rw [zaz,zer] at h;omega
  ·rcases zan v with rfl|⟨v,m,rfl⟩
   ·rw [zaz,zer] at h;omega
   ·have hl:=h1 l (by simp)
    have hm:=h2 m (by simp)
    rw [zaz,zaz] at h
    have e1:l=m:=by omega
    have e2:wval u=wval v:=by omega
    simp only [List.length_append,List.length_singleton] at hu
    rw [e1,ih u v (by omega) (fun x hx=>h1 x (by simp [hx])) (fun x hx=>h2 x (by simp [hx])) e2]
inductive Goes (d:Nat→Nat→List Nat) (start:List Nat):List Nat→Nat→Prop where
 |nil {x:Nat} (h:x∈start):Goes d start [] x
 |snoc {w:List Nat} {l n x:Nat} (h:Goes d start w n) (hx:x∈d n l):Goes d start (w++[l]) x
theorem Goes.inv {d:Nat→Nat→List Nat} {start w:List Nat} {l x:Nat}(h:Goes d start (w++[l]) x):∃ n,Goes d start w n∧x∈d n l:=by
 generalize hv:w++[l]=v at h
 cases h with
 |nil _=>simp at hv
 |@snoc w' l' n _ h hx =>
  have:=List.append_inj' hv rfl
  obtain⟨rfl,h2⟩:=this
  simp at h2
  subst h2
  exact⟨n,h,hx⟩
theorem Goes.inv_nil {d:Nat→Nat→List Nat} {start:List Nat} {x:Nat}(h:Goes d start [] x):x∈start:=by
 generalize hv:([]:List Nat)=v at h
 cases h with
 |nil h=>exact h
 |snoc _ _=>simp at hv
def visN (st:List Bool × List Nat) (n:Nat):List Bool × List Nat:=if st.1.getD n true then st else (st.1.set n true,st.2++[n])
def vis (S:List Bool) (ns:List Nat):List Bool × List Nat:=ns.foldl visN (S,[])
theorem vis_snoc (S:List Bool) (ns:List Nat) (n:Nat):vis S (ns++[n])=visN (vis S ns) n:=by simp [vis]
theorem zfm (S:List Bool) (ns:List Nat)(hn:∀ n∈ns,n<S.length) :
  (vis S ns).1.length=S.length∧(∀ x,x<S.length→((vis S ns).1.getD x true=true↔S.getD x true=true∨x∈ns))∧(∀ x,x∈(vis S ns).2↔x∈ns∧S.getD x true=false):=by
 have key:∀ k,k≤ns.length→(vis S (ns.take k)).1.length=S.length∧(∀ x,x<S.length→((vis S (ns.take k)).1.getD x true=true↔S.getD x true=true∨x∈ns.take k))∧(∀ x,x∈(vis S (ns.take k)).2↔x∈ns.take k∧S.getD x true=false):=by
  intro k
  induction k with
  |zero=>intro _;exact⟨rfl,fun x _=>by simp [vis],fun x=>by simp [vis]⟩
  |succ k ih =>
   intro hk
   obtain⟨h1,h2,h3⟩:=ih (by omega)
   have hx:ns[k]?=some ns[k]:=List.getElem?_eq_getElem (by omega)
   have hnk:=hn ns[k] (List.getElem_mem _)
   rw [List.take_add_one,hx]
   simp only [Option.toList_some]
   generalize ns[k]=n at *
   rw [vis_snoc]
   generalize vis S (ns.take k)=st at *
   obtain⟨T,fr⟩:=st
   simp only at h1 h2 h3
   unfold visN
   simp only
   cases hT:T.getD n true
   ·have hTS:=h2 n hnk
    rw [hT] at hTS
    have hnS:S.getD n true=false:=by cases h:S.getD n true<;>simp_all
    have hnn:n∉ns.take k:=fun h=>by simp [h] at hTS
    refine⟨by simp [h1],fun x hx=>?_,fun x=>?_⟩
    ·simp only [Bool.false_eq_true,if_false,List.getD_eq_getElem?_getD,List.mem_append,List.mem_singleton]
     by_cases e:x=n
     ·subst e
      rw [List.getElem?_set_self (by omega)]
      simp
     ·rw [List.getElem?_set_ne (by omega)]
      have:=h2 x hx
      rw [List.getD_eq_getElem?_getD,List.getD_eq_getElem?_getD] at this
      simp only [e,or_false]
      exact this
    ·simp only [Bool.false_eq_true,if_false,List.mem_append,List.mem_singleton]
     constructor
     ·rintro (h|rfl)
      ·exact⟨Or.inl ((h3 x).1 h).1,((h3 x).1 h).2⟩
      ·exact⟨Or.inr rfl,hnS⟩
     ·rintro ⟨h|rfl,h'⟩
      ·exact Or.inl ((h3 x).2 ⟨h,h'⟩)
      ·exact Or.inr rfl
   ·refine⟨h1,fun x hx=>?_,fun x=>?_⟩
    ·simp only [if_true,List.mem_append,List.mem_singleton]
     rw [h2 x hx]
     have hTS:=(h2 n hnk).1 hT
     constructor
     ·rintro (h|h)
      ·exact Or.inl h
      ·exact Or.inr (Or.inl h)
     ·rintro (h|h|rfl)
      ·exact Or.inl h
      ·exact Or.inr h
      ·exact hTS
    ·simp only [if_true,List.mem_append,List.mem_singleton]
     rw [h3 x]
     have hTS:=(h2 n hnk).1 hT
     constructor
     ·rintro ⟨h,h'⟩;exact⟨Or.inl h,h'⟩
     ·rintro ⟨h|rfl,h'⟩
      ·exact⟨h,h'⟩
      ·rcases hTS with h|h
       ·rw [h] at h';cases h'
       ·exact⟨h,h'⟩
 have:=key ns.length (Nat.le_refl _)
 rwa [List.take_length] at this
structure Stp where
 parent:Int
 letter:Nat
 nodes:List Nat
structure Bfs (d:Nat→Nat→List Nat) (start:List Nat) (goal:Nat→Bool) (L:List Nat) (N:Nat) (S:List Bool) (st:List Stp) (ws:List (List Nat)) (i j:Nat):Prop where
 len:S.length=N
 wl:ws.length=st.length
 small:∀ (k:Nat) (p:Stp),st[k]?=some p→∀ x∈p.nodes,x<N
 some_:∀ (k:Nat) (p:Stp),st[k]?=some p→p.nodes≠[]
 word:∀ (k:Nat) (p:Stp),st[k]?=some p→(k=0∧p.parent = -1∧ws.getD k []=[])∨(∃ a b:Nat,p.parent=(a:Int)∧a<k∧(a<i∨a=i∧b<j)∧L[b]?=some p.letter∧ws.getD k []=ws.getD a []++[p.letter])
 goes:∀ (k:Nat) (p:Stp),st[k]?=some p→∀ x∈p.nodes,Goes d start (ws.getD k []) x
 incr:∀ a b:Nat,a<b→b<st.length→wval (ws.getD a [])<wval (ws.getD b [])
 seen:∀ x,x<N→(S.getD x true=true↔∃ (k:Nat) (p:Stp),st[k]?=some p∧x∈p.nodes)
 first:∀ x∈start,∃ (p:Stp),st[0]?=some p∧x∈p.nodes
 zero:∀ p,st[0]?=some p→ws.getD 0 []=[]
 proc:∀ (k:Nat) (p:Stp) (b l:Nat),st[k]?=some p→L[b]?=some l→(k<i∨k=i∧b<j)→∀ n∈p.nodes,∀ x∈d n l,∃ (k':Nat) (q:Stp),st[k']?=some q∧x∈q.nodes∧wval (ws.getD k' [])≤wval (ws.getD k []++[l])
 dull:∀ (k:Nat) (p:Stp),st[k]?=some p→∀ x∈p.nodes,goal x=false
section
variable {d:Nat→Nat→List Nat} {start:List Nat} {goal:Nat→Bool} {L:List Nat} {N:Nat} {S:List Bool} {st:List Stp} {ws:List (List Nat)} {i j:Nat}
def Rise (L:List Nat):Prop:=(∀ l∈L,l<6)∧∀ (a b x y:Nat),L[a]?=some x→L[b]?=some y→a<b→x<y
theorem Bfs.before (h:Bfs d start goal L N S st ws i j) {V:Nat}(hV:∀ (k:Nat) (p:Stp) (b l:Nat),st[k]?=some p→L[b]?=some l→wval (ws.getD k []++[l])<V→(k<i∨k=i∧b<j)) :
  ∀ (m:Nat) (v:List Nat),v.length≤m→(∀ l∈v,l∈L)→wval v<V→∀ x,Goes d start v x→∃ (k:Nat) (p:Stp),st[k]?=some p∧x∈p.nodes∧wval (ws.getD k [])≤wval v:=by
 intro m
 induction m with
 |zero =>
  intro v hv _ _ x hx
  obtain rfl:v=[]:=List.eq_nil_of_length_eq_zero (by omega)
  obtain⟨p,hp,hxp⟩:=h.first x hx.inv_nil
  exact⟨0,p,hp,hxp,by rw [h.zero p hp];exact Nat.le_refl _⟩
 |succ m ih =>
  intro v hv hl hlt x hx
  rcases zan v with rfl|⟨u,l,rfl⟩
  ·obtain⟨p,hp,hxp⟩:=h.first x hx.inv_nil
   exact⟨0,p,hp,hxp,by rw [h.zero p hp];exact Nat.le_refl _⟩
  ·obtain⟨n,hn,hxn⟩:=hx.inv
   simp only [List.length_append,List.length_singleton] at hv
   have hlL:=hl l (by simp)
   obtain⟨b,hb⟩:=List.getElem?_of_mem hlL
   rw [zaz] at hlt
   obtain⟨k,p,hp,hnp,hk⟩:=ih u (by omega) (fun x hx=>hl x (by simp [hx])) (by omega) n hn
   have hlt2:wval (ws.getD k []++[l])<V:=by rw [zaz];omega
   obtain⟨k',q,hq,hxq,hk'⟩:=h.proc k p b l hp hb (hV k p b l hp hb hlt2) n hnp x hxn
   exact⟨k',q,hq,hxq,by rw [zaz] at hk' ⊢;omega⟩
theorem Bfs.none (h:Bfs d start goal L N S st ws i j)(hend:st.length≤i) {v:List Nat}(hv:∀ l∈v,l∈L) {x:Nat}(hx:Goes d start v x):goal x=false:=by
 by_cases hst:st=[]
 ·subst hst
  exfalso
  have:∀ (m:Nat) (v:List Nat),v.length≤m→∀ x,¬ Goes d start v x:=by
   intro m
   induction m with
   |zero =>
    intro v hv x hx
    obtain rfl:v=[]:=List.eq_nil_of_length_eq_zero (by omega)
    obtain⟨p,hp,_⟩:=h.first x hx.inv_nil
    simp at hp
   |succ m ih =>
    intro v hv x hx
    rcases zan v with rfl|⟨u,l,rfl⟩
    ·obtain⟨p,hp,_⟩:=h.first x hx.inv_nil
     simp at hp
    ·obtain⟨n,hn,_⟩:=hx.inv
     exact ih u (by simp at hv;omega) n hn
  exact this v.length v (Nat.le_refl _) x hx
 ·obtain⟨k,p,hp,hxp,_⟩:=h.before (V:=wval v+1) (fun k p b l hp hb _=>Or.inl (by have:=(List.getElem?_eq_some_iff.1 hp).1;omega)) v.length v (Nat.le_refl _) hv (by omega) x hx
  exact h.dull k p hp x hxp
theorem Bfs.ahead (h:Bfs d start goal L N S st ws i j)(hL:Rise L) {l:Nat}(hi:i<st.length)(hl:L[j]?=some l) {k:Nat}(hk:k<st.length):wval (ws.getD k [])<wval (ws.getD i []++[l]):=by
 rw [zaz]
 rcases h.word k _ (List.getElem?_eq_getElem hk) with ⟨_,_,e⟩|⟨a,b,_,hak,hab,hb,e⟩
 ·rw [e,zer];omega
 ·rw [e,zaz]
  have hbl:=hL.1 _ (List.mem_of_getElem? hb)
  rcases hab with h1|⟨rfl,h2⟩
  ·have:=h.incr a i h1 hi
   omega
  ·have:=hL.2 b j _ _ hb hl h2
   omega
theorem Bfs.taken (h:Bfs d start goal L N S st ws i j)(hL:Rise L) {l:Nat}(hi:i<st.length)(hl:L[j]?=some l) (k:Nat) (p:Stp) (b m:Nat)(hp:st[k]?=some p)(hb:L[b]?=some m)(hlt:wval (ws.getD k []++[m])<wval (ws.getD i []++[l])):k<i∨k=i∧b<j:=by
 rw [zaz,zaz] at hlt
 have hk:=(List.getElem?_eq_some_iff.1 hp).1
 have h1:=hL.1 _ (List.mem_of_getElem? hb)
 have h2:=hL.1 _ (List.mem_of_getElem? hl)
 rcases Nat.lt_trichotomy k i with h3|h3|h3
 ·exact Or.inl h3
 ·subst h3
  refine Or.inr ⟨rfl,?_⟩
  rcases Nat.lt_trichotomy b j with h4|h4|h4
  ·exact h4
  ·subst h4
   rw [hb] at hl
   have:=Option.some.inj hl
   omega
  ·have:=hL.2 j b _ _ hl hb h4
   omega
 ·have:=h.incr i k h3 hk
  omega
theorem Bfs.found (h:Bfs d start goal L N S st ws i j)(hL:Rise L) {l:Nat}(hi:i<st.length)(hl:L[j]?=some l) {v:List Nat}(hv:∀ x∈v,x∈L)(hlt:wval v<wval (ws.getD i []++[l])) {x:Nat}(hx:Goes d start v x):goal x=false:=by
 obtain⟨k,p,hp,hxp,_⟩:=h.before (fun k p b m hp hb hlt=>h.taken hL hi hl k p b m hp hb hlt) v.length v (Nat.le_refl _) hv hlt x hx
 exact h.dull k p hp x hxp
theorem Bfs.row (h:Bfs d start goal L N S st ws i j)(hj:L.length≤j):Bfs d start goal L N S st ws (i+1) 0:=
 { h with
  word:=fun k p hp=>by
   rcases h.word k p hp with h1|⟨a,b,h1,h2,h3,h4⟩
   ·exact Or.inl h1
   ·exact Or.inr ⟨a,b,h1,h2,by omega,h4⟩
  proc:=fun k p b l hp hb hk=>by
   have hbl:=(List.getElem?_eq_some_iff.1 hb).1
   exact h.proc k p b l hp hb (by omega) }
def addS (st:List Stp) (a:Int) (l:Nat) (fr:List Nat):List Stp:=if fr=[] then st else st++[⟨a,l,fr⟩]
def addW (ws:List (List Nat)) (w:List Nat) (fr:List Nat):List (List Nat):=if fr=[] then ws else ws++[w]
theorem zdZ {ws:List (List Nat)} {k:Nat} (w:List Nat)(hk:k<ws.length):(ws++[w]).getD k []=ws.getD k []:=by
 rw [List.getD_eq_getElem?_getD,List.getD_eq_getElem?_getD,List.getElem?_append_left hk]
theorem zfx {ws:List (List Nat)} (w:List Nat):(ws++[w]).getD ws.length []=w:=by
 rw [List.getD_eq_getElem?_getD,List.getElem?_append_right (Nat.le_refl _),Nat.sub_self]
 rfl
theorem Bfs.step (h:Bfs d start goal L N S st ws i j)(hL:Rise L) {l:Nat} {pi:Stp}(hi:st[i]?=some pi)(hl:L[j]?=some l) {rs:List Nat}(hrs:∀ x,x∈rs↔∃ n∈pi.nodes,x∈d n l)(hN:∀ x∈rs,x<N)(hg:∀ x∈(vis S rs).2,goal x=false) :
  Bfs d start goal L N (vis S rs).1 (addS st i l (vis S rs).2) (addW ws (ws.getD i []++[l]) (vis S rs).2) i (j+1):=by
 have hil:=(List.getElem?_eq_some_iff.1 hi).1
 obtain⟨v1,v2,v3⟩:=zfm S rs (fun n hn=>by rw [h.len];exact hN n hn)
 generalize (vis S rs).1=T at *
 generalize (vis S rs).2=fr at *
 have hahead:=fun k hk=>h.ahead hL hil hl (k:=k) hk
 by_cases hfr:fr=[]
 ·subst hfr
  rw [addS,if_pos rfl,addW,if_pos rfl]
  have hsub:∀ x∈rs,S.getD x true=true:=fun x hx=>by
   cases hS:S.getD x true
   ·have:=(v3 x).2 ⟨hx,hS⟩
    cases this
   ·rfl
  refine { h with len:=v1.trans h.len,word:=?_,seen:=?_,proc:=?_ }
  ·intro k p hp
   rcases h.word k p hp with h1|⟨a,b,h1,h2,h3,h4⟩
   ·exact Or.inl h1
   ·exact Or.inr ⟨a,b,h1,h2,by omega,h4⟩
  ·intro x hx
   rw [v2 x (by rw [h.len];exact hx)]
   constructor
   ·rintro (h1|h1)
    ·exact (h.seen x hx).1 h1
    ·exact (h.seen x hx).1 (hsub x h1)
   ·intro h1
    exact Or.inl ((h.seen x hx).2 h1)
  ·intro k p b m hp hb hk n hn x hx
   by_cases hkj:k=i∧b=j
   ·obtain⟨rfl,rfl⟩:=hkj
    rw [hi] at hp
    obtain rfl:=Option.some.inj hp
    rw [hl] at hb
    obtain rfl:=Option.some.inj hb
    have hxr:=(hrs x).2 ⟨n,hn,hx⟩
    obtain⟨k',q,hq,hxq⟩:=(h.seen x (hN x hxr)).1 (hsub x hxr)
    exact⟨k',q,hq,hxq,Nat.le_of_lt (hahead k' (List.getElem?_eq_some_iff.1 hq).1)⟩
   ·exact h.proc k p b m hp hb (by omega) n hn x hx
 ·rw [addS,if_neg hfr,addW,if_neg hfr]
  have hold:∀ {k:Nat} {p:Stp},(st++[(⟨i,l,fr⟩:Stp)])[k]?=some p→(k<st.length∧st[k]?=some p)∨(k=st.length∧p=⟨i,l,fr⟩):=by
   intro k p hp
   rcases Nat.lt_trichotomy k st.length with hk|hk|hk
   ·rw [List.getElem?_append_left hk] at hp
    exact Or.inl ⟨hk,hp⟩
   ·rw [List.getElem?_append_right (by omega),hk,Nat.sub_self] at hp
    exact Or.inr ⟨hk,(Option.some.inj hp).symm⟩
   ·rw [List.getElem?_eq_none (by simp;omega)] at hp
    cases hp
  have hkeep:∀ {k:Nat} {p:Stp},st[k]?=some p→(st++[(⟨i,l,fr⟩:Stp)])[k]?=some p:=fun {k p} hp=>by
   rw [List.getElem?_append_left (List.getElem?_eq_some_iff.1 hp).1];exact hp
  have hnew:(st++[(⟨i,l,fr⟩:Stp)])[st.length]?=some ⟨i,l,fr⟩:=by rw [List.getElem?_append_right (Nat.le_refl _),Nat.sub_self];rfl
  have hwl:=h.wl
  have hgl:∀ k,k<st.length→(ws++[ws.getD i []++[l]]).getD k []=ws.getD k []:=fun k hk=>zdZ _ (by omega)
  have hgn:(ws++[ws.getD i []++[l]]).getD st.length []=ws.getD i []++[l]:=by rw [← hwl];exact zfx _
  have hfrs:∀ x∈fr,x∈rs∧S.getD x true=false:=fun x hx=>(v3 x).1 hx
  refine⟨v1.trans h.len,by simp [hwl],?_,?_,?_,?_,?_,?_,?_,?_,?_,?_⟩
  ·intro k p hp x hx
   rcases hold hp with ⟨_,h1⟩|⟨_,rfl⟩
   ·exact h.small k p h1 x hx
   ·exact hN x (hfrs x hx).1
  ·intro k p hp
   rcases hold hp with ⟨_,h1⟩|⟨_,rfl⟩
   ·exact h.some_ k p h1
   ·exact hfr
  ·intro k p hp
   rcases hold hp with ⟨h0,h1⟩|⟨rfl,rfl⟩
   ·rcases h.word k p h1 with ⟨e0,e1,e2⟩|⟨a,b,e1,e2,e3,e4,e5⟩
    ·exact Or.inl ⟨e0,e1,by rw [hgl k h0];exact e2⟩
    ·exact Or.inr ⟨a,b,e1,e2,by omega,e4,by rw [hgl k h0,hgl a (by omega)];exact e5⟩
   ·exact Or.inr ⟨i,j,rfl,hil,Or.inr ⟨rfl,by omega⟩,hl,by rw [hgn,hgl i hil]⟩
  ·intro k p hp x hx
   rcases hold hp with ⟨h0,h1⟩|⟨rfl,rfl⟩
   ·rw [hgl k h0];exact h.goes k p h1 x hx
   ·rw [hgn]
    obtain⟨n,hn,hxn⟩:=(hrs x).1 (hfrs x hx).1
    exact .snoc (h.goes i pi hi n hn) hxn
  ·intro a b hab hb
   simp only [List.length_append,List.length_singleton] at hb
   by_cases hbl:b<st.length
   ·rw [hgl a (by omega),hgl b hbl];exact h.incr a b hab hbl
   ·obtain rfl:b=st.length:=by omega
    rw [hgl a hab,hgn];exact hahead a hab
  ·intro x hx
   rw [v2 x (by rw [h.len];exact hx)]
   constructor
   ·rintro (h1|h1)
    ·obtain⟨k,p,hp,hxp⟩:=(h.seen x hx).1 h1
     exact⟨k,p,hkeep hp,hxp⟩
    ·cases hS:S.getD x true
     ·exact⟨_,_,hnew,(v3 x).2 ⟨h1,hS⟩⟩
     ·obtain⟨k,p,hp,hxp⟩:=(h.seen x hx).1 hS
      exact⟨k,p,hkeep hp,hxp⟩
   ·rintro ⟨k,p,hp,hxp⟩
    rcases hold hp with ⟨_,h1⟩|⟨_,rfl⟩
    ·exact Or.inl ((h.seen x hx).2 ⟨k,p,h1,hxp⟩)
    ·exact Or.inr (hfrs x hxp).1
  ·intro x hx
   obtain⟨p,hp,hxp⟩:=h.first x hx
   exact⟨p,hkeep hp,hxp⟩
  ·intro p hp
   rcases hold hp with ⟨h0,h1⟩|⟨h0,_⟩
   ·rw [hgl 0 h0];exact h.zero p h1
   ·omega
  ·intro k p b m hp hb hk n hn x hx
   rcases hold hp with ⟨h0,h1⟩|⟨rfl,rfl⟩
   ·rw [hgl k h0]
    by_cases hkj:k=i∧b=j
    ·obtain⟨rfl,rfl⟩:=hkj
     rw [hi] at h1
     obtain rfl:=Option.some.inj h1
     rw [hl] at hb
     obtain rfl:=Option.some.inj hb
     have hxr:=(hrs x).2 ⟨n,hn,hx⟩
     cases hS:S.getD x true
     ·exact⟨_,_,hnew,(v3 x).2 ⟨hxr,hS⟩,by rw [hgn];exact Nat.le_refl _⟩
     ·obtain⟨k',q,hq,hxq⟩:=(h.seen x (hN x hxr)).1 hS
      have hk':=(List.getElem?_eq_some_iff.1 hq).1
      exact⟨k',q,hkeep hq,hxq,by rw [hgl k' hk'];exact Nat.le_of_lt (hahead k' hk')⟩
    ·obtain⟨k',q,hq,hxq,hle⟩:=h.proc k p b m h1 hb (by omega) n hn x hx
     have hk':=(List.getElem?_eq_some_iff.1 hq).1
     exact⟨k',q,hkeep hq,hxq,by rw [hgl k' hk'];exact hle⟩
   ·omega
  ·intro k p hp x hx
   rcases hold hp with ⟨_,h1⟩|⟨_,rfl⟩
   ·exact h.dull k p h1 x hx
   ·exact hg x hx
theorem Bfs.begin_ {d:Nat→Nat→List Nat} {start:List Nat} {goal:Nat→Bool} {L:List Nat} {N:Nat}(hN:∀ x∈start,x<N)(hg:∀ x∈(vis (List.replicate N false) start).2,goal x=false) :
  Bfs d start goal L N (vis (List.replicate N false) start).1 (addS [] (-1) 0 (vis (List.replicate N false) start).2) (addW [] [] (vis (List.replicate N false) start).2) 0 0:=by
 obtain⟨v1,v2,v3⟩:=zfm (List.replicate N false) start (fun n hn=>by simpa using hN n hn)
 have hf:∀ x,x<N→(List.replicate N false).getD x true=false:=fun x hx=>by simp [List.getD_eq_getElem?_getD,hx]
 generalize (vis (List.replicate N false) start).1=T at *
 generalize (vis (List.replicate N false) start).2=fr at *
 have hfr:∀ x,x∈fr↔x∈start:=fun x=>(v3 x).trans ⟨fun h=>h.1,fun h=>⟨h,hf x (hN x h)⟩⟩
 have hT:∀ x,x<N→(T.getD x true=true↔x∈start):=fun x hx=>by
  rw [v2 x (by simpa using hx),hf x hx]
  simp
 by_cases he:fr=[]
 ·subst he
  rw [addS,if_pos rfl,addW,if_pos rfl]
  have hs:∀ x,x∉start:=fun x hx=>by have:=(hfr x).2 hx;cases this
  refine⟨by simpa using v1,rfl,fun k p hp=>by simp at hp,fun k p hp=>by simp at hp,fun k p hp=>by simp at hp,fun k p hp=>by simp at hp,fun a b _ hb=>by simp at hb,fun x hx=>?_,fun x hx=>absurd hx (hs x),fun p hp=>by simp at hp,fun k p b l hp=>by simp at hp,fun k p hp=>by simp at hp⟩
  rw [hT x hx]
  exact⟨fun h=>absurd h (hs x),fun ⟨k,p,hp,_⟩=>by simp at hp⟩
 ·rw [addS,if_neg he,addW,if_neg he]
  have hold:∀ {k:Nat} {p:Stp},([]++[(⟨-1,0,fr⟩:Stp)])[k]?=some p→k=0∧p=⟨-1,0,fr⟩:=by
   intro k p hp
   cases k with
   |zero=>exact⟨rfl,by simpa using hp.symm⟩
   |succ k=>simp at hp
  refine⟨by simpa using v1,rfl,?_,?_,?_,?_,?_,?_,?_,?_,?_,?_⟩
  ·intro k p hp x hx
   obtain⟨rfl,rfl⟩:=hold hp
   exact hN x ((hfr x).1 hx)
  ·intro k p hp
   obtain⟨rfl,rfl⟩:=hold hp
   exact he
  ·intro k p hp
   obtain⟨rfl,rfl⟩:=hold hp
   exact Or.inl ⟨rfl,rfl,rfl⟩
  ·intro k p hp x hx
   obtain⟨rfl,rfl⟩:=hold hp
   exact .nil ((hfr x).1 hx)
  ·intro a b hab hb
   simp at hb;omega
  ·intro x hx
   rw [hT x hx]
   constructor
   ·intro h
    exact⟨0,_,rfl,(hfr x).2 h⟩
   ·rintro ⟨k,p,hp,hxp⟩
    obtain⟨rfl,rfl⟩:=hold hp
    exact (hfr x).1 hxp
  ·intro x hx
   exact⟨_,rfl,(hfr x).2 hx⟩
  ·intro p _
   rfl
  ·intro k p b l hp _ hk
   omega
  ·intro k p hp x hx
   obtain⟨rfl,rfl⟩:=hold hp
   exact hg x hx
end
end Go.Proofs.YtndhahednhnnbaaGreatDoor
namespace Go.Proofs.YtndhahednhnnbaaGreatDoor
theorem visN_cnt (st:List Bool × List Nat) (n:Nat):(visN st n).1.count true+st.2.length=st.1.count true+(visN st n).2.length:=by
 unfold visN
 cases h:st.1.getD n true
 ·have hn:n<st.1.length:=by
   rcases Nat.lt_or_ge n st.1.length with h1|h1
   ·exact h1
   ·rw [List.getD_eq_getElem?_getD,List.getElem?_eq_none h1] at h;cases h
  have hv:st.1[n]=false:=by rw [List.getD_eq_getElem?_getD,List.getElem?_eq_getElem hn] at h;exact h
  simp only [Bool.false_eq_true,if_false]
  rw [List.count_set hn,hv]
  simp
  omega
 ·simp
theorem foldl_cnt (ns:List Nat) (st:List Bool × List Nat):(ns.foldl visN st).1.count true+st.2.length=st.1.count true+(ns.foldl visN st).2.length:=by
 induction ns generalizing st with
 |nil=>rfl
 |cons n r ih =>
  have h1:=ih (visN st n)
  have h2:=visN_cnt st n
  rw [List.foldl_cons]
  omega
theorem vis_cnt (S:List Bool) (ns:List Nat):(vis S ns).1.count true=S.count true+(vis S ns).2.length:=by
 have:=foldl_cnt ns (S,[])
 simpa [vis] using this
def Cnt (S:List Bool) (st:List Stp):Prop:=(st.map fun p=>p.nodes.length).sum=S.count true
theorem Cnt.add {S:List Bool} {st:List Stp}(h:Cnt S st) (a:Int) (l:Nat) (ns:List Nat):Cnt (vis S ns).1 (addS st a l (vis S ns).2):=by
 unfold Cnt at h ⊢
 rw [vis_cnt,addS]
 by_cases he:(vis S ns).2=[]
 ·rw [if_pos he,he,h];rfl
 ·rw [if_neg he]
  simp [h]
theorem Cnt.nil (N:Nat):Cnt (List.replicate N false) []:=by
 unfold Cnt
 simp [List.count_replicate]
theorem sum_len {l:List Nat}(h:∀ x∈l,1≤x):l.length≤l.sum:=by
 induction l with
 |nil=>simp
 |cons x r ih =>
  have h1:=ih (fun y hy=>h y (by simp [hy]))
  have h2:=h x (by simp)
  simp
  omega
theorem sum_mem {l:List Nat} {x:Nat}(h:x∈l):x≤l.sum:=by
 induction l with
 |nil=>cases h
 |cons y r ih =>
  rcases List.mem_cons.1 h with rfl|h
  ·simp
  ·have:=ih h
   simp
   omega
theorem Cnt.steps {S:List Bool} {st:List Stp}(h:Cnt S st)(hs:∀ (k:Nat) (p:Stp),st[k]?=some p→p.nodes≠[]):st.length≤S.length:=by
 unfold Cnt at h
 have h1:(st.map fun p=>p.nodes.length).length≤(st.map fun p=>p.nodes.length).sum:=sum_len (fun x hx=>by
  obtain⟨p,hp,rfl⟩:=List.mem_map.1 hx
  obtain⟨k,hk⟩:=List.getElem?_of_mem hp
  have:=hs k p hk
  have:=List.length_pos_iff.2 this
  omega)
 rw [List.length_map,h] at h1
 exact Nat.le_trans h1 List.count_le_length
theorem Cnt.nodes {S:List Bool} {st:List Stp}(h:Cnt S st) {k:Nat} {p:Stp}(hp:st[k]?=some p):p.nodes.length≤S.length:=by
 unfold Cnt at h
 have h1:=sum_mem (List.mem_map.2 ⟨p,List.mem_of_getElem? hp,rfl⟩:p.nodes.length∈st.map fun p=>p.nodes.length)
 rw [h] at h1
 exact Nat.le_trans h1 List.count_le_length
def reach (d:Nat→Nat→List Nat) (l:Nat) (ns:List Nat):List Nat:=(ns.map fun n=>d n l).flatten
theorem zfD {d:Nat→Nat→List Nat} {l:Nat} {ns:List Nat} {x:Nat}:x∈reach d l ns↔∃ n∈ns,x∈d n l:=by
 unfold reach
 rw [List.mem_flatten]
 exact⟨fun ⟨ys,h1,h2⟩=>by obtain⟨n,hn,rfl⟩:=List.mem_map.1 h1;exact⟨n,hn,h2⟩,fun ⟨n,hn,h2⟩=>⟨_,List.mem_map.2 ⟨n,hn,rfl⟩,h2⟩⟩
theorem reach_snoc (d:Nat→Nat→List Nat) (l:Nat) (ns:List Nat) (n:Nat):reach d l (ns++[n])=reach d l ns++d n l:=by simp [reach]
theorem reach_take {d:Nat→Nat→List Nat} {l k n:Nat} {ns:List Nat}(h:ns[k]?=some n):reach d l (ns.take (k+1))=reach d l (ns.take k)++d n l:=by
 rw [List.take_add_one,h]
 exact reach_snoc _ _ _ _
theorem reach_len {d:Nat→Nat→List Nat} {l D:Nat} {ns:List Nat}(h:∀ n∈ns,(d n l).length≤D):(reach d l ns).length≤ns.length*D:=by
 induction ns with
 |nil=>simp [reach]
 |cons n r ih =>
  have h1:=ih (fun x hx=>h x (by simp [hx]))
  have h2:=h n (by simp)
  simp only [reach,List.map_cons,List.flatten_cons,List.length_append,List.length_cons,Nat.add_mul,Nat.one_mul] at h1 ⊢
  omega
def Found (d:Nat→Nat→List Nat) (start:List Nat) (goal:Nat→Bool) (L:List Nat) (v:List Nat):Prop:=
 (∀ l∈v,l∈L)∧(∃ x,Goes d start v x∧goal x=true)∧∀ u,(∀ l∈u,l∈L)→wval u<wval v→∀ x,Goes d start u x→goal x=false
def Lost (d:Nat→Nat→List Nat) (start:List Nat) (goal:Nat→Bool) (L:List Nat):Prop:=∀ v,(∀ l∈v,l∈L)→∀ x,Goes d start v x→goal x=false
end Go.Proofs.YtndhahednhnnbaaGreatDoor
namespace Go.Proofs.YtndhahednhnnbaaGreatDoor
open Go Go.RowKit
def cho (s:Sys) (i l:Nat):List Nat:=if s.al.toNat.testBit l then letters (succ s.edges i l) 32 else [i]
def nx:List Sys→Nat→Nat→List Nat × Nat × Nat
 |[],m,_=>([0],1,m)
 |s :: r,m,l=>((cho s ((nx r m l).2.2 % s.st.toNat) l).flatMap (fun q=>(nx r m l).1.map fun x=>q*(nx r m l).2.1+x),(nx r m l).2.1*s.st.toNat,(nx r m l).2.2 / s.st.toNat)
def Sml (s:Sys):Prop:=1≤s.st∧s.st≤16∧Few s.st.toNat s.edges∧0≤s.al∧s.al≤63
theorem zef (a k:Nat):(letters a k).Nodup:=List.Pairwise.filter _ List.nodup_range
theorem zB {a k x:Nat}:x∈letters a k↔x<k∧a.testBit x=true:=by simp [letters,List.mem_filter]
theorem cho_lt {s:Sys}(h:Sml s) {i l:Nat}(hi:i<s.st.toNat):∀ q∈cho s i l,q<s.st.toNat:=by
 intro q hq
 unfold cho at hq
 split at hq
 ·have hb:=(zB.1 hq).2
  rcases Nat.lt_or_ge q s.st.toNat with h1|h1
  ·exact h1
  ·have:=Nat.testBit_lt_two_pow (Nat.lt_of_lt_of_le (succ_lt h.2.2.1 i l) (Nat.pow_le_pow_right (by omega) h1))
   rw [hb] at this;cases this
 ·rw [List.mem_singleton.1 hq];exact hi
theorem cho_nodup (s:Sys) (i l:Nat):(cho s i l).Nodup:=by
 unfold cho
 split
 ·exact zef _ _
 ·simp
theorem zeh {l:List Nat}(h:l.Nodup) {p:Nat}(hl:∀ x∈l,x<p):l.length≤p:=by
 have h1:l ⊆ List.range p:=fun x hx=>List.mem_range.2 (hl x hx)
 have:=List.Nodup.length_le_of_subset h h1
 simpa using this
theorem cho_len {s:Sys}(h:Sml s) {i l:Nat}(hi:i<s.st.toNat):(cho s i l).length≤s.st.toNat:=zeh (cho_nodup s i l) (cho_lt h hi)
def place (a l:Nat):Nat:=(letters a l).length
def aGo (a:Aut) (q l:Nat):Nat:=if a.al.toNat.testBit l then ((a.next.getD q []).getD (place a.al.toNat l) 0).toNat else q
abbrev Mem:=Nat × (Nat→Nat→List Nat)
def sMem (s:Sys):Mem:=(s.st.toNat,cho s)
def aMem (a:Aut):Mem:=(a.next.length,fun q l=>[aGo a q l])
def zaw:List Nat→Nat
 |[]=>1
 |m :: r=>m*zaw r
def zat (ms:List Mem):Nat:=zaw (ms.map Prod.fst)
theorem zdp (m:Mem) (r:List Mem):zat (m :: r)=m.1*zat r:=rfl
theorem zcu (a b:List Nat):zaw (a++b)=zaw a*zaw b:=by
 induction a with
 |nil=>simp [zaw]
 |cons x r ih=>rw [List.cons_append,zaw,zaw,ih,Nat.mul_assoc]
theorem prodN_append (a b:List Mem):zat (a++b)=zat a*zat b:=by
 unfold zat
 rw [List.map_append,zcu]
theorem prodS_pos {l:List Nat}(h:∀ x∈l,1≤x):1≤zaw l:=by
 induction l with
 |nil=>simp [zaw]
 |cons x r ih=>exact Nat.mul_pos (h x (by simp)) (ih fun y hy=>h y (by simp [hy]))
def dec:List Nat→Nat→List Nat
 |[],_=>[]
 |s :: r,x=>(x / zaw r % s) :: dec r x
theorem zcC (l:List Nat) (x:Nat):(dec l x).length=l.length:=by
 induction l with
 |nil=>rfl
 |cons s r ih=>simp [dec,ih]
theorem zgH {l:List Nat} {x k s:Nat}(h:l[k]?=some s):(dec l x)[k]?=some (x / zaw (l.drop (k+1)) % s):=by
 induction l generalizing k with
 |nil=>simp at h
 |cons t r ih =>
  cases k with
  |zero=>simp at h;subst h;simp [dec]
  |succ k=>simp at h;simpa [dec] using ih h
def encF (acc:Nat):List Nat→List Nat→Nat
 |s :: r,x :: xs=>encF (acc*s+x) r xs
 |_,_=>acc
def pnx:List Mem→Nat→Nat→List Nat
 |[],_,_=>[0]
 |m :: r,x,l=>(m.2 (x / zat r % m.1) l).flatMap fun q=>(pnx r x l).map fun y=>q*zat r+y
def MemOk (m:Mem):Prop:=1≤m.1∧∀ q l,q<m.1→l<6→∀ x∈m.2 q l,x<m.1
theorem prodN_pos {ms:List Mem}(h:∀ m∈ms,MemOk m):1≤zat ms:=prodS_pos fun x hx=>by
 obtain⟨m,hm,rfl⟩:=List.mem_map.1 hx
 exact (h m hm).1
theorem pnx_lt {ms:List Mem}(h:∀ m∈ms,MemOk m) {x l:Nat}(hl:l<6):∀ y∈pnx ms x l,y<zat ms:=by
 induction ms with
 |nil=>intro y hy;simp [pnx] at hy;subst hy;simp [zat,zaw]
 |cons m r ih =>
  intro y hy
  rw [pnx] at hy
  obtain⟨q,hq,hy⟩:=List.mem_flatMap.1 hy
  obtain⟨z,hz,rfl⟩:=List.mem_map.1 hy
  have h1:=(h m (by simp)).2 _ l (Nat.mod_lt _ (h m (by simp)).1) hl q hq
  have h2:=ih (fun m hm=>h m (by simp [hm])) z hz
  rw [zdp]
  calc q*zat r+z<q*zat r+zat r:=by omega
   _=(q+1)*zat r:=by rw [Nat.add_mul,Nat.one_mul]
   _≤m.1*zat r:=Nat.mul_le_mul_right _ h1
theorem zez (a b:List Mem) (x l:Nat):pnx (a++b) x l=(pnx a (x / zat b) l).flatMap fun q=>(pnx b x l).map fun y=>q*zat b+y:=by
 induction a with
 |nil=>simp [pnx]
 |cons m r ih =>
  rw [List.cons_append,pnx,pnx,ih,prodN_append,List.flatMap_assoc]
  rw [Nat.div_div_eq_div_mul,Nat.mul_comm (zat b) (zat r)]
  congr 1
  funext q
  rw [List.map_flatMap,List.flatMap_map]
  congr 1
  funext z
  rw [List.map_map]
  congr 1
  funext y
  simp only [Function.comp]
  rw [Nat.add_mul,Nat.mul_assoc,Nat.add_assoc]
theorem nx_pnx (ss:List Sys) (m l:Nat):nx ss m l=(pnx (ss.map sMem) m l,zat (ss.map sMem),m / zat (ss.map sMem)):=by
 induction ss with
 |nil=>simp [nx,pnx,zat,zaw]
 |cons s r ih =>
  rw [nx,ih,List.map_cons,pnx,zdp]
  simp only [sMem]
  rw [Nat.div_div_eq_div_mul,Nat.mul_comm (zat _) s.st.toNat]
theorem pnx_two (a p:Aut) (x l:Nat):pnx [aMem a,aMem p] x l=[aGo a (x / p.next.length % a.next.length) l*p.next.length+aGo p (x % p.next.length) l]:=by
 simp [pnx,aMem,zat,zaw]
theorem pnx_one (p:Aut) (x l:Nat):pnx [aMem p] x l=[aGo p (x % p.next.length) l]:=by
 simp [pnx,aMem,zat,zaw]
theorem pnx_under (ss:List Sys) (a p:Aut) (x l:Nat) :
  pnx (ss.map sMem++[aMem a,aMem p]) x l=(nx ss (x / p.next.length / a.next.length) l).1.map fun y=>y*a.next.length*p.next.length+(aGo a (x / p.next.length % a.next.length) l*p.next.length+aGo p (x % p.next.length) l):=by
 have hp:zat [aMem a,aMem p]=a.next.length*p.next.length:=by simp [zat,zaw,aMem]
 rw [zez,pnx_two,nx_pnx,hp,Nat.div_div_eq_div_mul,Nat.mul_comm p.next.length a.next.length]
 simp only [List.map_cons,List.map_nil,← List.map_eq_flatMap,Nat.mul_assoc]
def free:Aut:=⟨0,[[]],[true]⟩
theorem pnx_free (ss:List Sys) (p:Aut) (x l:Nat):pnx (ss.map sMem++[aMem free,aMem p]) x l=pnx (ss.map sMem++[aMem p]) x l:=by
 have h0:∀ q l,aGo free q l=q:=fun q l=>by simp [aGo,free]
 rw [zez,zez,pnx_two,pnx_one,h0]
 have h1:zat [aMem free,aMem p]=p.next.length:=by simp [zat,zaw,aMem,free]
 have h2:zat [aMem p]=p.next.length:=by simp [zat,zaw,aMem]
 rw [h1,h2]
 have h3:free.next.length=1:=rfl
 rw [h3,Nat.mod_one,Nat.zero_mul,Nat.zero_add]
def fwd (cs:List (Nat × List Nat)):List Nat:=cs.foldl (fun out c=>out.flatMap fun o=>c.2.map fun x=>o*c.1+x) [0]
theorem zgM (cs:List (Nat × List Nat)) (c:Nat × List Nat):fwd (cs++[c])=(fwd cs).flatMap fun o=>c.2.map fun x=>o*c.1+x:=by simp [fwd]
def chs:List Mem→Nat→Nat→List (Nat × List Nat)
 |[],_,_=>[]
 |m :: r,x,l=>(m.1,m.2 (x / zat r % m.1) l) :: chs r x l
theorem zew (ms:List Mem) (x l:Nat):(chs ms x l).length=ms.length:=by
 induction ms with
 |nil=>rfl
 |cons m r ih=>simp [chs,ih]
theorem chs_get {ms:List Mem} {x l k:Nat} {m:Mem}(h:ms[k]?=some m):(chs ms x l)[k]?=some (m.1,m.2 (x / zat (ms.drop (k+1)) % m.1) l):=by
 induction ms generalizing k with
 |nil=>simp at h
 |cons t r ih =>
  cases k with
  |zero=>simp at h;subst h;simp [chs]
  |succ k=>simp at h;simpa [chs] using ih h
theorem foldl_pnx (ms:List Mem) (x l:Nat) (out:List Nat):(chs ms x l).foldl (fun out c=>out.flatMap fun o=>c.2.map fun x=>o*c.1+x) out=out.flatMap fun o=>(pnx ms x l).map fun y=>o*zat ms+y:=by
 induction ms generalizing out with
 |nil=>simp [chs,pnx,zat,zaw]
 |cons m r ih =>
  rw [chs,List.foldl_cons,ih,pnx,List.flatMap_assoc]
  congr 1
  funext o
  rw [List.flatMap_map,List.map_flatMap]
  congr 1
  funext q
  rw [List.map_map]
  congr 1
  funext y
  simp only [Function.comp,zdp]
  rw [Nat.add_mul,Nat.mul_assoc,Nat.add_assoc]
theorem fwd_pnx (ms:List Mem) (x l:Nat):fwd (chs ms x l)=pnx ms x l:=by
 have:=foldl_pnx ms x l [0]
 simpa [fwd] using this
theorem flat_len {α β:Type} {l:List α} {f:α→List β} {k:Nat}(h:∀ x∈l,(f x).length≤k):(l.flatMap f).length≤l.length*k:=by
 induction l with
 |nil=>simp
 |cons x r ih =>
  have h1:=ih fun y hy=>h y (by simp [hy])
  have h2:=h x (by simp)
  rw [List.flatMap_cons,List.length_append,List.length_cons,Nat.add_mul,Nat.one_mul]
  omega
theorem fwd_len {cs:List (Nat × List Nat)}(h:∀ c∈cs,c.2.length≤c.1):(fwd cs).length≤zaw (cs.map Prod.fst):=by
 have key:∀ n,n≤cs.length→(fwd (cs.take n)).length≤zaw ((cs.take n).map Prod.fst):=by
  intro n
  induction n with
  |zero=>intro _;simp [fwd,zaw]
  |succ n ih =>
   intro hn
   have hc:cs[n]?=some cs[n]:=List.getElem?_eq_getElem (by omega)
   rw [List.take_add_one,hc]
   simp only [Option.toList_some]
   rw [zgM,List.map_append,zcu]
   refine Nat.le_trans (flat_len (k:=(cs[n]).2.length) fun x _=>by simp) ?_
   refine Nat.mul_le_mul (ih (by omega)) ?_
   simpa [zaw] using h cs[n] (List.getElem_mem _)
 have:=key cs.length (Nat.le_refl _)
 rwa [List.take_length] at this
theorem fwd_lt {cs:List (Nat × List Nat)}(h:∀ c∈cs,∀ x∈c.2,x<c.1):∀ y∈fwd cs,y<zaw (cs.map Prod.fst):=by
 have key:∀ n,n≤cs.length→∀ y∈fwd (cs.take n),y<zaw ((cs.take n).map Prod.fst):=by
  intro n
  induction n with
  |zero=>intro _ y hy;simp [fwd] at hy;subst hy;simp [zaw]
  |succ n ih =>
   intro hn y hy
   have hc:cs[n]?=some cs[n]:=List.getElem?_eq_getElem (by omega)
   rw [List.take_add_one,hc] at hy ⊢
   simp only [Option.toList_some] at hy ⊢
   rw [zgM] at hy
   rw [List.map_append,zcu]
   obtain⟨o,ho,hy⟩:=List.mem_flatMap.1 hy
   obtain⟨x,hx,rfl⟩:=List.mem_map.1 hy
   have h1:=ih (by omega) o ho
   have h2:=h cs[n] (List.getElem_mem _) x hx
   simp only [List.map_cons,List.map_nil,zaw,Nat.mul_one]
   calc o*(cs[n]).1+x<o*(cs[n]).1+(cs[n]).1:=by omega
    _=(o+1)*(cs[n]).1:=by rw [Nat.add_mul,Nat.one_mul]
    _≤_:=Nat.mul_le_mul_right _ h1
 have:=key cs.length (Nat.le_refl _)
 rwa [List.take_length] at this
theorem sMem_ok {s:Sys}(h:Sml s):MemOk (sMem s):=⟨by have:=h.1;simp only [sMem];omega,fun q l hq hl x hx=>cho_lt h hq x hx⟩
theorem zv {a:Aut}(h:zk a=true):(0≤a.al∧a.al≤63)∧(1≤a.next.length∧a.next.length≤12)∧a.acc.length=a.next.length∧∀ (q:Nat) (row:List Int),a.next[q]?=some row→row.length=(letters a.al.toNat 6).length∧∀ x∈row,0≤x∧x<a.next.length:=by
 simp only [zk,Bool.and_eq_true,decide_eq_true_eq,List.all_eq_true] at h
 obtain⟨h1,h2,h3,h4⟩:=h
 refine⟨h1,h2,h3,fun q row hr=>?_⟩
 have:=h4 row (List.mem_of_getElem? hr)
 simp only [rowB,Bool.and_eq_true,decide_eq_true_eq,List.all_eq_true] at this
 exact this
theorem place_lt {a l:Nat}(hl:l<6)(hb:a.testBit l=true):place a l<(letters a 6).length:=by
 have key:∀ n,l+1≤n→place a l<(letters a n).length:=by
  intro n
  induction n with
  |zero=>intro h;omega
  |succ n ih =>
   intro h
   rw [zaZ,List.length_append]
   by_cases e:n=l
   ·subst e
    simp [place,hb]
   ·have:=ih (by omega)
    omega
 exact key 6 (by omega)
theorem zfn {a:Aut}(h:zk a=true) {q l:Nat}(hq:q<a.next.length)(hl:l<6):aGo a q l<a.next.length:=by
 obtain⟨_,_,_,hr⟩:=zv h
 unfold aGo
 split
 ·rename_i hb
  have hrow:a.next[q]?=some a.next[q]:=List.getElem?_eq_getElem hq
  obtain⟨h1,h2⟩:=hr q _ hrow
  have hp:=place_lt hl hb
  rw [← h1] at hp
  have hx:=h2 _ (List.getElem_mem hp)
  simp only [List.getD_eq_getElem?_getD,hrow,Option.getD_some,List.getElem?_eq_getElem hp]
  omega
 ·exact hq
theorem aMem_ok {a:Aut}(h:zk a=true):MemOk (aMem a):=⟨(zv h).2.1.1,fun q l hq hl x hx=>by
 simp only [aMem,List.mem_singleton] at hx ⊢
 subst hx
 exact zfn h hq hl⟩
theorem free_valid:zk free=true:=by decide
set_option maxHeartbeats 1000000
def lst (x:Nat):Nat:=(letters x 32).headD 0
def clsOf (R:List Nat):Nat→List Nat × Nat
 |0=>([],0)
 |k+1=>if lst (R.getD k 0)=k then ((clsOf R k).1++[(clsOf R k).2],(clsOf R k).2+1) else ((clsOf R k).1++[(clsOf R k).1.getD (lst (R.getD k 0)) 0],(clsOf R k).2)
def cl (R:List Nat) (i:Nat):Nat:=(clsOf R (i+1)).1.getD i 0
def dW (es es':List Edg) (Z n l:Nat):List Nat:=(letters (succ es (n / Z:Nat) l) 32).map fun q=>q*Z+zad es' (n % Z) l
section
variable {es es':List Edg} {p q:Nat}
theorem dW_mem (hp:p≤16)(hf:Few p es)(hg:Few q es') {n l x:Nat}:x∈dW es es' (2 ^ q) n l↔E es (n / 2 ^ q) l (x / 2 ^ q)∧x % 2 ^ q=zad es' (n % 2 ^ q) l:=by
 have hZ:=Nat.two_pow_pos q
 have hy:=zcx hg (n % 2 ^ q) l
 unfold dW
 rw [List.mem_map]
 constructor
 ·rintro ⟨k,hk,rfl⟩
  have h1:(k*2 ^ q+zad es' (n % 2 ^ q) l) / 2 ^ q=k:=by
   rw [Nat.mul_comm,Nat.mul_add_div hZ,Nat.div_eq_of_lt hy,Nat.add_zero]
  have h2:(k*2 ^ q+zad es' (n % 2 ^ q) l) % 2 ^ q=zad es' (n % 2 ^ q) l:=by
   rw [Nat.mul_comm,Nat.mul_add_mod,Nat.mod_eq_of_lt hy]
  rw [h1,h2]
  exact⟨(E_iff hf _ _ _).2 (zaF.1 hk).2,rfl⟩
 ·rintro ⟨h1,h2⟩
  have h3:=(E_iff hf _ _ _).1 h1
  refine⟨x / 2 ^ q,zaF.2 ⟨?_,h3⟩,?_⟩
  ·obtain⟨e,he,_,_,h5⟩:=h1
   have:=hf e he
   omega
  ·rw [← h2,Nat.mul_comm]
   exact Nat.div_add_mod x (2 ^ q)
theorem E_lt (hf:Few p es) {i l k:Nat}(h:E es i l k):i<p∧k<p:=by
 obtain⟨e,he,h1,h2,h3⟩:=h
 have:=hf e he
 omega
theorem node_one (hq:1≤q):1 / 2 ^ q=0∧1 % 2 ^ q=2 ^ 0:=by
 have hZ:2≤2 ^ q:=by
  have:=Nat.pow_le_pow_right (n:=2) (by omega) hq
  omega
 exact⟨Nat.div_eq_of_lt (by omega),Nat.mod_eq_of_lt (by omega)⟩
end
theorem ltE_trans {a b c:Edg}(h:ltE a b=true)(h':ltE b c=true):ltE a c=true:=by
 unfold ltE at *
 (repeat' split at h)<;>(repeat' split at h')<;>(repeat' split)<;>simp only [decide_eq_true_eq] at*<;> omega
theorem ltE_iff {a b:Edg}:ltE a b=true↔a.fr<b.fr∨a.fr=b.fr∧(a.le<b.le∨a.le=b.le∧a.ta<b.ta):=by
 unfold ltE
 (repeat' split)<;>simp only [decide_eq_true_eq]<;>omega
def Rising (es:List Edg):Prop:=∀ (a b:Nat) (x y:Edg),es[a]?=some x→es[b]?=some y→a<b→ltE x y=true
theorem rising_of {es:List Edg}(h:∀ k x y,es[k]?=some x→es[k+1]?=some y→ltE x y=true):Rising es:=by
 intro a b x y hx hy hab
 induction b generalizing y with
 |zero=>omega
 |succ b ih =>
  have hb:=(List.getElem?_eq_some_iff.1 hy).1
  obtain⟨z,hz⟩:∃ z,es[b]?=some z:=⟨_,List.getElem?_eq_getElem (by omega)⟩
  have h1:=h b z y hz hy
  rcases Nat.lt_or_ge a b with h2|h2
  ·exact ltE_trans (ih z hz h2) h1
  ·obtain rfl:a=b:=by omega
   rw [hx] at hz
   obtain rfl:=Option.some.inj hz
   exact h1
theorem zeq {s:Sys}:zi s=true↔(0≤s.al∧s.al≤63)∧(1≤s.st∧s.st≤16)∧(∀ e∈s.edges,edgB s.al.toNat s.st e=true)∧Rising s.edges:=by
 simp only [zi,Bool.and_eq_true,decide_eq_true_eq,List.all_eq_true,List.mem_range]
 constructor
 ·rintro ⟨h1,h2,h3⟩
  refine⟨h1,h2,fun e he=>?_,rising_of fun k x y hx hy=>?_⟩
  ·obtain⟨k,hk⟩:=List.getElem?_of_mem he
   have:=h3 k (List.getElem?_eq_some_iff.1 hk).1
   rw [zbo,hk] at this
   simp only [Bool.and_eq_true] at this
   exact this.1
  ·have:=h3 (k+1) (List.getElem?_eq_some_iff.1 hy).1
   unfold zbo at this
   rw [hy] at this
   simp only [Nat.add_sub_cancel,hx,Bool.and_eq_true,Bool.or_eq_true,decide_eq_true_eq] at this
   rcases this.2 with h|h
   ·omega
   ·exact h
 ·rintro ⟨h1,h2,h3,h4⟩
  refine⟨h1,h2,fun k hk=>?_⟩
  have hx:s.edges[k]?=some s.edges[k]:=List.getElem?_eq_getElem hk
  unfold zbo
  rw [hx]
  simp only [Bool.and_eq_true,Bool.or_eq_true,decide_eq_true_eq]
  refine⟨h3 _ (List.getElem_mem hk),?_⟩
  cases k with
  |zero=>exact Or.inl rfl
  |succ k =>
   have hy:s.edges[k]?=some s.edges[k]:=List.getElem?_eq_getElem (by omega)
   simp only [Nat.add_sub_cancel,hy]
   exact Or.inr (h4 k (k+1) _ _ hy hx (by omega))
def ALAt (w:World) (lo hi:Nat) (A:Option Addr) (n:Nat) (us:List Aut):Prop:=
 n=us.length∧∃ cells,Reads w lo hi 3 A n cells∧∀ (k:Nat) (a:Aut),us[k]?=some a→∃ (B:Option Addr) (m c:Nat) (B':Option Addr) (m' c':Nat),cells[k*3]?=some (.int .i64 a.al)∧cells[k*3+1]?=some (.slice B m c)∧cells[k*3+2]?=some (.slice B' m' c')∧zR w lo hi B m B' m' a
section
variable {w w':World} {lo hi n k:Nat} {A:Option Addr} {us:List Aut}
theorem ALAt.ext (h:ALAt w lo hi A n us)(hb:Ext w w'):ALAt w' lo hi A n us:=by
 obtain⟨e,cells,hr,hx⟩:=h
 refine⟨e,cells,hr.ext hb,fun k s hs=>?_⟩
 obtain⟨B,m,c,B',m',c',h0,h1,h2,h3⟩:=hx k s hs
 exact⟨B,m,c,B',m',c',h0,h1,h2,h3.ext hb⟩
theorem ALAt.len (h:ALAt w lo hi A n us):n≤9223372036854775807:=by
 obtain⟨_,cells,hr,_⟩:=h
 exact hr.len
theorem ALAt.aut (h:ALAt w lo hi A n us)(hk:k<n):∃ b o a B m c B' m' c',A=some ⟨b,o,none⟩∧Hid (us[k]?=some a)∧w.cell? ⟨b,o+k*3,none⟩=some (.int .i64 a.al)∧w.cell? ⟨b,o+k*3+1,none⟩=some (.slice B m c)∧w.cell? ⟨b,o+k*3+2,none⟩=some (.slice B' m' c')∧zR w lo hi B m B' m' a:=by
 obtain⟨e,cells,hr,hx⟩:=h
 have h0:us[0]?=some (us[0]'(by omega)):=List.getElem?_eq_getElem _
 obtain⟨_,_,_,_,_,_,z0,_⟩:=hx 0 _ h0
 rw [Nat.zero_mul] at z0
 obtain⟨b,o,rfl,hl,hb,hc⟩:=zgu hr (by omega) z0
 have hs:us[k]?=some (us[k]'(by omega)):=List.getElem?_eq_getElem _
 obtain⟨B,m,c,B',m',c',h0,h1,h2,h3⟩:=hx k _ hs
 exact⟨b,o,_,B,m,c,B',m',c',rfl,hs,hc _ _ h0,by rw [Nat.add_assoc];exact hc _ _ h1,by rw [Nat.add_assoc];exact hc _ _ h2,h3⟩
end
structure zdW (w:World) (PA:Option Addr) (pn:Nat) (AA:Option Addr) (an:Nat) (ss:List Sys) (us:List Aut):Prop where
 sys:∃ lo hi,SLAt w lo hi PA pn ss
 aut:∃ lo hi,ALAt w lo hi AA an us
theorem zdW.ext {w w':World} {PA AA:Option Addr} {pn an:Nat} {ss:List Sys} {us:List Aut}(h:zdW w PA pn AA an ss us)(hx:Ext w w'):zdW w' PA pn AA an ss us:=by
 obtain⟨⟨lo,hi,h1⟩,lo',hi',h2⟩:=h
 exact⟨⟨lo,hi,h1.ext hx⟩,lo',hi',h2.ext hx⟩
def mems (ss:List Sys) (us:List Aut):List Mem:=ss.map sMem++us.map aMem
def szs (ss:List Sys) (us:List Aut):List Nat:=ss.map (fun s=>s.st.toNat)++us.map fun a=>a.next.length
theorem zeg (ss:List Sys) (us:List Aut):(mems ss us).map Prod.fst=szs ss us:=by
 simp [mems,szs,sMem,aMem,Function.comp_def]
structure zcL (ss:List Sys) (us:List Aut):Prop where
 sys:∀ s∈ss,zi s=true
 aut:∀ a∈us,zk a=true
 few:ss.length≤3
 few':us.length≤2
theorem zdg {s:Sys}(h:zi s=true):Sml s:=by
 obtain⟨h1,h2,h3,h4⟩:=zeq.1 h
 obtain⟨p,hp,_,_,hf⟩:=zax h
 refine⟨h2.1,h2.2,?_,h1.1,h1.2⟩
 rw [hp]
 exact hf
theorem zcL.ok {ss:List Sys} {us:List Aut}(h:zcL ss us):∀ m∈mems ss us,MemOk m:=by
 intro m hm
 rcases List.mem_append.1 hm with h1|h1
 ·obtain⟨s,hs,rfl⟩:=List.mem_map.1 h1
  exact sMem_ok (zdg (h.sys s hs))
 ·obtain⟨a,ha,rfl⟩:=List.mem_map.1 h1
  exact aMem_ok (h.aut a ha)
theorem prodS_le {l:List Nat} {b:Nat}(h:∀ x∈l,x≤b):zaw l≤b ^ l.length:=by
 induction l with
 |nil=>simp [zaw]
 |cons x r ih =>
  rw [zaw,List.length_cons,Nat.pow_succ,Nat.mul_comm]
  exact Nat.mul_le_mul (ih fun y hy=>h y (by simp [hy])) (h x (by simp))
theorem zcL.le16 {ss:List Sys} {us:List Aut}(h:zcL ss us):∀ x∈szs ss us,1≤x∧x≤16:=by
 intro x hx
 rcases List.mem_append.1 hx with h1|h1
 ·obtain⟨s,hs,rfl⟩:=List.mem_map.1 h1
  have hh:=zdg (h.sys s hs)
  have:=hh.1;have:=hh.2.1
  omega
 ·obtain⟨a,ha,rfl⟩:=List.mem_map.1 h1
  have:=(zv (h.aut a ha)).2.1
  omega
theorem zcL.len {ss:List Sys} {us:List Aut}(h:zcL ss us):(szs ss us).length≤5:=by
 have:=h.few;have:=h.few'
 simp [szs];omega
theorem zcL.total {ss:List Sys} {us:List Aut}(h:zcL ss us) (l:List Nat)(hl:l.Sublist (szs ss us)):1≤zaw l∧zaw l≤1048576:=by
 refine⟨prodS_pos fun x hx=>(h.le16 x (hl.subset hx)).1,?_⟩
 have h1:=prodS_le (l:=l) (b:=16) fun x hx=>(h.le16 x (hl.subset hx)).2
 have h2:=hl.length_le
 have h3:=h.len
 calc zaw l≤16 ^ l.length:=h1
  _≤16 ^ 5:=Nat.pow_le_pow_right (by omega) (by omega)
  _=1048576:=by decide
set_option maxHeartbeats 1000000
theorem place_succ (a k:Nat):place a (k+1)=place a k+if a.testBit k then 1 else 0:=by
 unfold place
 rw [zaZ,List.length_append]
 cases a.testBit k<;>simp
theorem spec_l1Place (a l:Nat)(ha:Sm a)(hl:l≤6) (w:World) :
  Calls Tryz.prog 217 #[.int .i64 a,.int .i64 l] w fun e w'=>e=.returned (.int .i64 (place a l:Nat))∧w=w':=by
 go_enter Tryz.func217,Tryz.ntmps217
 go_wp2
 go_loop [5,6] (fun v i=>∃ k y:Nat,k≤l∧i=.int .i64 k∧v=.int .i64 y∧y≤k∧Hid (y=place a k)) (fun _ i=>l - (intOf i).toNat)
 case atStart=>exact⟨0,0,Nat.zero_le _,rfl,rfl,Nat.le_refl _,rfl⟩
 case round =>
  obtain⟨k,y,hk,rfl,rfl,hy,hyo⟩:=hrel
  by_cases hlt:k<l
  ·cases hb:a.testBit k
   all_goals
    have Hb:=hide hb
    have Hs:=hide (place_succ a k)
    clear hb
    go_wp2_with (go_at_call 147;refine (zaj a k ha _ (by omega)).mono ?_;rw [Hb.out];rintro e w' ⟨rfl,rfl⟩)
    go_round
    case rel=>first|exact⟨k+1,y,by omega,by go_num,rfl,by omega,by unfold Hid;rw [Hs.out,Hb.out,← hyo.out];rfl⟩|exact⟨k+1,y+1,by omega,by go_num,by go_num,by omega,by unfold Hid;rw [Hs.out,Hb.out,← hyo.out];rfl⟩
    case measure=>simp [intOf];omega
  ·obtain rfl:l=k:=by omega
   go_wp2
   go_ret
   exact⟨zK (by rw [hyo.out]),rfl⟩
theorem zcJ {lo hi:Nat} {B:Option Addr} {m d:Nat} {B':Option Addr} {m' d':Nat} {a:Aut} {q l:Nat} {w:World}(h:zR w lo hi B m B' m' a)(hv:zk a=true)(hq:q<a.next.length)(hl:l<6) :
  Calls Tryz.prog 198 #[.agg #[.int .i64 a.al,.slice B m d,.slice B' m' d'],.int .i64 q,.int .i64 l] w fun e w'=>e=.returned (.int .i64 (aGo a q l:Nat))∧Ext w w':=by
 obtain⟨⟨al0,al1⟩,_,_,hrows⟩:=zv hv
 obtain⟨al,hal⟩:∃ al:Nat,Hid (a.al=al):=⟨a.al.toNat,by unfold Hid;omega⟩
 have hsm:Sm al:=by have:=hal.out;unfold Sm;omega
 have htn:a.al.toNat=al:=by have:=hal.out;omega
 have Hn:=hide h.n1
 have HN:=hide (fun W (hW:Ext w W)=>h.1.ext hW)
 have hqm:q<m:=by rw [h.n1];exact hq
 have hG:=hide (show aGo a q l=if al.testBit l then ((a.next.getD q []).getD (place al l) 0).toNat else q by unfold aGo;rw [htn])
 have hrow:a.next[q]?=some a.next[q]:=List.getElem?_eq_getElem hq
 obtain⟨hr1,hr2⟩:=hrows q _ hrow
 rw [htn] at hr1
 have Hrow:=hide hrow
 have Hr2:=hide hr2
 have Hr1:=hide hr1
 have hlm:=h.1.len
 clear hr1 hr2 hrow htn hrows h
 generalize a.next[q]=row at *
 cases hb:al.testBit l
 ·have Hb:=hide hb
  clear hb
  rw [hal.out]
  clear al0 al1
  go_enter Tryz.func198,Tryz.ntmps198
  go_wp2_with (go_at_call 147;refine (zaj al l hsm _ (by omega)).mono ?_;rw [Hb.out];rintro e w' ⟨rfl,rfl⟩)
  go_ret
  exact⟨zK (by rw [hG.out,Hb.out];rfl),(Ext.refl _).alloc _⟩
 ·have hp:=hide (place_lt hl hb)
  have Hb:=hide hb
  clear hb
  rw [hal.out]
  clear al0 al1
  have hpr:place al l<row.length:=by rw [Hr1.out];exact hp.out
  obtain⟨x,hx⟩:∃ x,Hid (row[place al l]?=some x):=⟨_,List.getElem?_eq_getElem hpr⟩
  obtain⟨x0,x1⟩:=Hr2.out x (List.mem_of_getElem? hx.out)
  obtain⟨y,rfl⟩:∃ y:Nat,x=y:=⟨x.toNat,by omega⟩
  have hfin:=hide (show aGo a q l=y by rw [hG.out,Hb.out,if_pos rfl];simp only [List.getD_eq_getElem?_getD,Hrow.out,Option.getD_some,hx.out];rfl)
  go_enter Tryz.func198,Tryz.ntmps198
  go_wp2_with (go_at_call 147;refine (zaj al l hsm _ (by omega)).mono ?_;rw [Hb.out];rintro e w' ⟨rfl,rfl⟩)
  have hw1:Ext w (w.alloc (.cells #[.int .i64 al,.slice B m d,.slice B' m' d'] 27)):=(Ext.refl w).alloc _
  have hb1:=Blk.new w 27 #[.int .i64 al,.slice B m d,.slice B' m' d']
  generalize w.alloc (.cells #[.int .i64 al,.slice B m d,.slice B' m' d'] 27)=w1 at *
  obtain⟨ad,Ak,ck,l',rfl,_,_,hl',hc,hrd⟩:=(HN.out w1 hw1).row hqm
  obtain rfl:row=l':=by have h1:=Hrow.out;have h2:=hl'.out;rw [h1] at h2;exact Option.some.inj h2
  have hpc:∀ W,Ext w1 W→∃ ad',Ak=some ad'∧W.cell? (ad'.add (place al l))=some (.int .i64 (y:Nat)):=fun W hW=>by
   obtain⟨ad',z,e,_,_,hz,hcz⟩:=(hrd.ext hW).int hpr
   have h1:=hx.out;have h2:=hz.out
   rw [h1] at h2
   obtain rfl:=Option.some.inj h2
   exact⟨ad',e,hcz⟩
  obtain⟨ad',rfl,_⟩:=hpc w1 (Ext.refl _)
  have c2:∀ W,Ext w1 W→W.cell? (ad'.add (place al l))=some (.int .i64 (y:Nat)):=fun W hW=>by
   obtain⟨ad2,e,h⟩:=hpc W hW
   injection e with e
   subst e
   exact h
  have c1:∀ W,Ext w1 W→W.cell? (ad.add q)=some (.slice (some ad') row.length ck):=fun W hW=>hW.cell_some hc
  have c0:=hb1.cells
  clear hpc hc hrd
  have hpi:(place al l:Int)<(row.length:Int):=by omega
  have hrr:=Ext.refl w1
  generalize hpp:place al l=pl at *
  have Hpp:=hide hpp
  clear hpp
  go_wp2_with fail
  go_region_held3 (fun W=>Ext w1 W) (first|assumption|(refine Ext.drew ?_;assumption)|(refine Ext.trans ?_ (by assumption);assumption)|(refine Ext.trans ?_ (by assumption);refine Ext.drew ?_;assumption)) ((go_at_call 217;refine (spec_l1Place al l hsm (by omega) _).mono ?_;rw [Hpp.out];rintro e w' ⟨rfl,rfl⟩))
  go_wp2
  go_ret
  exact⟨zK (by rw [hfin.out]),hw1.trans (by assumption)⟩
abbrev Lay (α:Type):=World→Nat→Nat→Value→α→Prop
structure Lay.Ok {α:Type} (P:Lay α):Prop where
 frm:∀ {S:Nat→Prop} {W W':World} {lo hi:Nat} {r:Value} {x:α},P W lo hi r x→Frm S W W'→(∀ k,lo≤k→k<hi→¬ S k)→P W' lo hi r x
 more:∀ {W:World} {lo hi lo' hi':Nat} {r:Value} {x:α},P W lo hi r x→lo'≤lo→hi≤hi'→P W lo' hi' r x
def NatP:Lay Nat:=fun _ _ _ r n=>r=.int .i64 (n:Nat)
theorem NatP.ok:Lay.Ok NatP:=⟨fun h _ _=>h,fun h _ _=>h⟩
def Lst {α:Type} (P:Lay α) (W:World) (lo hi:Nat) (A:Option Addr) (xs:List α):Prop:=
 ∃ rows,Reads W lo hi 1 A xs.length rows∧∀ (i:Nat) (r:Value) (x:α),rows[i]?=some r→xs[i]?=some x→P W lo hi r x
def LstP {α:Type} (P:Lay α):Lay (List α):=fun W lo hi r xs=>∃ A c,r=.slice A xs.length c∧Lst P W lo hi A xs
section
variable {α:Type} {P:Lay α} {W W':World} {lo hi:Nat} {A:Option Addr} {xs:List α}
theorem Lst.frm (hP:Lay.Ok P) {S:Nat→Prop}(h:Lst P W lo hi A xs)(hx:Frm S W W')(hS:∀ k,lo≤k→k<hi→¬ S k):Lst P W' lo hi A xs:=by
 obtain⟨rows,h1,h2⟩:=h
 exact⟨rows,h1.frm hx hS,fun i r x hr hx'=>hP.frm (h2 i r x hr hx') hx hS⟩
theorem Lst.ext (hP:Lay.Ok P)(h:Lst P W lo hi A xs)(hx:Ext W W'):Lst P W' lo hi A xs:=h.frm hP hx (fun _ _ _ h=>h)
theorem Lst.more (hP:Lay.Ok P) {lo' hi':Nat}(h:Lst P W lo hi A xs)(h1:lo'≤lo)(h2:hi≤hi'):Lst P W lo' hi' A xs:=by
 obtain⟨rows,h3,h4⟩:=h
 exact⟨rows,h3.more h1 h2,fun i r x hr hx'=>hP.more (h4 i r x hr hx') h1 h2⟩
theorem LstP.ok (hP:Lay.Ok P):Lay.Ok (LstP P):=by
 refine⟨fun h hx hS=>?_,fun h h1 h2=>?_⟩
 ·obtain⟨A,c,e,h⟩:=h
  exact⟨A,c,e,h.frm hP hx hS⟩
 ·obtain⟨A,c,e,h⟩:=h
  exact⟨A,c,e,h.more hP h1 h2⟩
theorem Lst.len (h:Lst P W lo hi A xs):xs.length≤9223372036854775807:=by
 obtain⟨rows,h1,_⟩:=h
 exact h1.len
theorem Lst.get {k:Nat}(h:Lst P W lo hi A xs)(hk:k<xs.length):∃ b o r x,A=some ⟨b,o,none⟩∧lo≤b∧b<hi∧Hid (xs[k]?=some x)∧W.cell? ⟨b,o+k,none⟩=some r∧P W lo hi r x:=by
 obtain⟨rows,h1,h2⟩:=h
 have hl:=h1.length
 rw [Nat.mul_one] at hl
 obtain⟨ad,e,h3,h4,h5⟩:=h1.at_ hk
 have hr0:rows[0]?=some (rows[0]'(by omega)):=List.getElem?_eq_getElem _
 have hrk:rows[k]?=some (rows[k]'(by omega)):=List.getElem?_eq_getElem _
 have hs:=zcc (h5 0 _ hr0)
 have hc:=h5 k _ hrk
 rw [hs,zL] at hc
 exact⟨ad.block,ad.off,_,_,by rw [e,← hs],h3,h4,List.getElem?_eq_getElem hk,hc,h2 k _ _ hrk (List.getElem?_eq_getElem hk)⟩
theorem Lst.get2 {k b o:Nat} {x:α}(h:Lst P W lo hi (some ⟨b,o,none⟩) xs)(hx:xs[k]?=some x):∃ r,W.cell? ⟨b,o+k,none⟩=some r∧P W lo hi r x:=by
 obtain⟨b',o',r,y,e,_,_,hy,hc,hp⟩:=h.get (List.getElem?_eq_some_iff.1 hx).1
 injection e with e
 injection e with e1 e2
 subst e1;subst e2
 rw [hx] at hy
 have:=Option.some.inj hy.out
 subst this
 exact⟨r,hc,hp⟩
end
theorem Lst.of_nats {W:World} {lo hi:Nat} {A:Option Addr} {xs:List Nat}(h:Reads W lo hi 1 A xs.length (nats xs)):Lst NatP W lo hi A xs:=⟨nats xs,h,fun i r x hr hx=>by
 simp only [nats,List.getElem?_map,hx,Option.map_some] at hr
 exact (Option.some.inj hr).symm⟩
theorem Lst.own_nats {W:World} {base c:Nat} {A:Option Addr} {xs:List Nat}(h:W.ownsRow base 3 1 (.slice A xs.length c) xs.length (nats xs)):Lst NatP W base W.heap.size A xs:=Lst.of_nats (Reads.of_own h)
theorem Lst.num {W:World} {lo hi k:Nat} {A:Option Addr} {xs:List Nat}(h:Lst NatP W lo hi A xs)(hk:k<xs.length):∃ b o x,A=some ⟨b,o,none⟩∧lo≤b∧b<hi∧Hid (xs[k]?=some x)∧W.cell? ⟨b,o+k,none⟩=some (.int .i64 (x:Nat)):=by
 obtain⟨b,o,r,x,e,h1,h2,h3,h4,h5⟩:=h.get hk
 exact⟨b,o,x,e,h1,h2,h3,by rw [h4,h5]⟩
theorem Lst.num2 {W:World} {lo hi k b o x:Nat} {xs:List Nat}(h:Lst NatP W lo hi (some ⟨b,o,none⟩) xs)(hx:xs[k]?=some x):W.cell? ⟨b,o+k,none⟩=some (.int .i64 (x:Nat)):=by
 obtain⟨r,h1,h2⟩:=h.get2 hx
 rw [h1,h2]
def Grl {α:Type} (P:Lay α) (W:World) (base:Nat) (e:TypeId) (v:Value) (xs:List α):Prop:=
 ∃ rows:List Value,W.ownsRow base e 1 v xs.length rows∧∀ (i:Nat) (r:Value) (x:α),rows[i]?=some r→xs[i]?=some x→∃ lo hi,base≤lo∧hi≤W.heap.size∧P W lo hi r x∧∀ b,v.ownBlock=some b→b<lo∨hi≤b
section
variable {α:Type} {P:Lay α} {W W':World} {base:Nat} {e:TypeId} {v:Value} {xs:List α}
theorem Grl.form (h:Grl P W base e v xs):∃ A c,v=.slice A xs.length c:=by
 obtain⟨rows,h1,_⟩:=h
 exact ze h1
theorem Grl.lst (hP:Lay.Ok P) {A:Option Addr} {n c:Nat}(h:Grl P W base e (.slice A n c) xs):Lst P W base W.heap.size A xs:=by
 obtain⟨rows,h1,h2⟩:=h
 have hn:n=xs.length:=by
  obtain⟨A',c',hh⟩:=ze h1
  injection hh
 subst hn
 refine⟨rows,Reads.of_own h1,fun i r x hr hx=>?_⟩
 obtain⟨lo,hi,h3,h4,h5,_⟩:=h2 i r x hr hx
 exact hP.more h5 h3 h4
theorem Grl.push (hP:Lay.Ok P) {W1:World} {rows:List Value} {v' r:Value} {x:α} {lo hi:Nat}(h2:∀ (i:Nat) (r:Value) (x:α),rows[i]?=some r→xs[i]?=some x→∃ lo hi,base≤lo∧hi≤W.heap.size∧P W lo hi r x∧∀ b,v.ownBlock=some b→b<lo∨hi≤b)(h1:W.ownsRow base e 1 v xs.length rows)
  (hx:Ext W W1) (hr:P W1 lo hi r x) (hlo:W.heap.size≤lo) (hb:base≤lo) (hhi:hi≤W1.heap.size) (hown:W'.ownsRow base e 1 v' (xs.length+1) (rows++[r])) (hg:W1.grownBy W' v.ownBlock) (hat:v'.ownBlock=v.ownBlock∨v'.ownBlock=some (W1.heap.size+1)):Grl P W' base e v' (xs++[x]):=by
 have hlen:rows.length=xs.length:=by have:=zfF h1;omega
 have hfr:Frm (fun k=>v.ownBlock=some k) W1 W':=Frm.of_grown hg
 refine⟨rows++[r],by rw [List.length_append,List.length_singleton];exact hown,fun i s y hs hy=>?_⟩
 rcases Nat.lt_trichotomy i rows.length with hi' | hi' | hi'
 ·rw [List.getElem?_append_left hi'] at hs
  rw [List.getElem?_append_left (by omega)] at hy
  obtain⟨lo',hi'',h3,h4,h5,h6⟩:=h2 i s y hs hy
  refine⟨lo',hi'',h3,Nat.le_trans h4 (Nat.le_trans hx.size hfr.size),hP.frm (hP.frm h5 hx (fun _ _ _ h=>h)) hfr (fun k hk1 hk2 hk=>by have:=h6 k hk;omega),fun b hb'=>?_⟩
  rcases hat with h7|h7
  ·rw [h7] at hb';exact h6 b hb'
  ·rw [h7] at hb'
   have:=Option.some.inj hb'
   have:=hx.size
   omega
 ·rw [List.getElem?_append_right (by omega),hi',Nat.sub_self] at hs
  rw [List.getElem?_append_right (by omega),hi',hlen,Nat.sub_self] at hy
  simp at hs hy
  subst hs;subst hy
  refine⟨lo,hi,hb,Nat.le_trans hhi hfr.size,hP.frm hr hfr (fun k hk1 hk2 hk=>by have:=(h1.lt k hk).2;omega),fun b hb'=>?_⟩
  rcases hat with h7|h7
  ·rw [h7] at hb'
   have:=(h1.lt b hb').2
   omega
  ·rw [h7] at hb'
   have:=Option.some.inj hb'
   omega
 ·rw [List.getElem?_eq_none (by simp;omega)] at hs;cases hs
theorem Grl.push2 (hP:Lay.Ok P) {W1:World} {rows:List Value} {r:Value} {x:α} {lo hi g cap:Nat}(h2:∀ (i:Nat) (r:Value) (x:α),rows[i]?=some r→xs[i]?=some x→∃ lo hi,base≤lo∧hi≤W.heap.size∧P W lo hi r x∧∀ b,v.ownBlock=some b→b<lo∨hi≤b)(h1:W.ownsRow base e 1 v xs.length rows)
  (hx:Ext W W1) (hr:P W1 lo hi r x) (hlo:W.heap.size≤lo) (hb:base≤lo) (hhi:hi≤W1.heap.size) (hown:W'.ownsRow base e 1 (.slice (some ⟨g,0,none⟩) (xs.length+1) cap) (xs.length+1) (rows++[r])) (hg:W1.grownBy W' v.ownBlock) (hat:v.ownBlock=some g∨g=W1.heap.size+1):Grl P W' base e (.slice (some ⟨g,0,none⟩) (xs.length+1) cap) (xs++[x]):=
 Grl.push hP h2 h1 hx hr hlo hb hhi hown hg (by
  rcases hat with h|h
  ·exact Or.inl h.symm
  ·exact Or.inr (by rw [h];rfl))
end
set_option maxHeartbeats 2000000
theorem own_farP {w:World} {base:Nat} {e t:TypeId} {size n G:Nat} {v:Value} {xs:List Value} {cs:Array Value}(h:w.ownsRow base e size v n xs)(hB:Blk w G t cs)(hne:e≠t) {b:Nat}(hv:v.ownBlock=some b):b≠G:=by
 rintro rfl
 rcases h.2 with ⟨rfl,_⟩|⟨g,cap,cur,rfl,_,hh,_⟩
 ·simp [Value.ownBlock] at hv
 ·have hg:g=b:=by simpa [Value.ownBlock] using hv
  subst hg
  unfold Blk at hB
  rw [hh] at hB
  injection hB with hB
  injection hB with _ ht
  exact absurd ht hne
set_option maxHeartbeats 2000000
theorem zde (l:List Nat) (x:Nat):nats (l++[x])=nats l++[.int .i64 (x:Nat)]:=by simp [nats]
theorem spec_l4Sizes {PA AA:Option Addr} {pn pc an ac:Nat} {sv:Value} {L K G:Int} {ss:List Sys} {us:List Aut} {w:World}(h:zdW w PA pn AA an ss us)(hok:zcL ss us) :
  Calls Tryz.prog 188 #[.agg #[.slice PA pn pc,.slice AA an ac,sv,.int .i64 L,.int .i64 K,.int .i64 G]] w (zbs w (szs ss us)):=by
 have HN:=hide (fun W (hW:Ext w W)=>h.ext hW)
 have hpn:Hid (pn=ss.length):=by obtain⟨_,_,h1⟩:=h.sys;exact h1.1
 have han:Hid (an=us.length):=by obtain⟨_,_,h1⟩:=h.aut;exact h1.1
 have hp3:pn≤3:=by rw [hpn.out];exact hok.few
 have ha2:an≤2:=by rw [han.out];exact hok.few'
 have Hok:=hide hok
 clear h hok
 go_enter Tryz.func188,Tryz.ntmps188
 have hw1:Ext w (w.alloc (.cells #[.slice PA pn pc,.slice AA an ac,sv,.int .i64 L,.int .i64 K,.int .i64 G] 166)):=(Ext.refl w).alloc _
 have hb1:=Blk.new w 166 #[.slice PA pn pc,.slice AA an ac,sv,.int .i64 L,.int .i64 K,.int .i64 G]
 go_wp2
 go_loopw [3,4] (fun v i wr=>∃ k:Nat,k≤pn∧i=.int .i64 k∧wr.ownsRow w.heap.size 3 1 v k (nats ((ss.take k).map fun s=>s.st.toNat))∧Ext w wr∧Blk wr w.heap.size 166 #[.slice PA pn pc,.slice AA an ac,sv,.int .i64 L,.int .i64 K,.int .i64 G])
  (fun _ i _=>pn - (intOf i).toNat)
 case atStart=>exact⟨0,Nat.zero_le _,rfl,(by have h0:=World.ownsRow_lit (base:=w.heap.size) (e:=3) (size:=1) (w.alloc (.cells #[.slice PA pn pc,.slice AA an ac,sv,.int .i64 L,.int .i64 K,.int .i64 G] 166)) #[] 0 (by simp) (by unfold maxLen;omega) rfl;simpa [nats] using h0),hw1.alloc _,hb1.ext ((Ext.refl _).alloc _)⟩
 case round =>
  obtain⟨k,hk,rfl,hown,hext,hbx⟩:=hrel
  have c0:=hbx.cell
  by_cases hlt:k<pn
  ·obtain⟨lo,hi,hsl⟩:=(HN.out wr hext).sys
   obtain⟨b,o,s,B,q,d,rfl,hlo,hhi,hs,e0,e1,e2,hsy⟩:=hsl.sys hlt
   have hss:=zdg (Hok.out.sys s (List.mem_of_getElem? hs.out))
   obtain⟨p,hp⟩:∃ p:Nat,Hid (s.st=p):=⟨s.st.toNat,by have:=hss.1;unfold Hid;omega⟩
   rw [hp.out] at e1
   have Htk:=hide (show (ss.take (k+1)).map (fun s=>s.st.toNat)=(ss.take k).map (fun s=>s.st.toNat)++[p] by rw [List.take_add_one,hs.out];simp [hp.out])
   clear hss hsl hsy
   go_wp2_with (at_builtin;refine zN w wr rfl _ _ _ rfl 3 _ 1 8 Tryz.underlying71 zaf rfl (by decide) u3 _ _ _ _ rfl rfl hext hown rfl (zbt _) (by unfold maxLen;omega) (by omega) ?_;intro v' w1 hext1 hown1 hg1 hat1)
   have hbx1:Blk w1 w.heap.size 166 #[.slice (some ⟨b,o,none⟩) pn pc,.slice AA an ac,sv,.int .i64 L,.int .i64 K,.int .i64 G]:=(hg1.block _ hbx.lt (fun e=>own_farP hown hbx (by decide) e.symm rfl)).trans hbx
   go_roundw
   case rel=>exact⟨k+1,by omega,by go_num,by rw [Htk.out,zde];exact hown1,hext1,hbx1⟩
   case measure=>simp [intOf];omega
  ·obtain rfl:pn=k:=by omega
   have hown0:wr.ownsRow w.heap.size 3 1 u3 pn (nats (ss.map fun s=>s.st.toNat)):=by rw [List.take_of_length_le (by have:=hpn.out;omega)] at hown;exact hown
   clear hown
   go_wp2
   go_loopw [3,5] (fun v i wr=>∃ k:Nat,k≤an∧i=.int .i64 k∧wr.ownsRow w.heap.size 3 1 v (pn+k) (nats (ss.map (fun s=>s.st.toNat)++(us.take k).map fun a=>a.next.length))∧Ext w wr∧Blk wr w.heap.size 166 #[.slice PA pn pc,.slice AA an ac,sv,.int .i64 L,.int .i64 K,.int .i64 G])
    (fun _ i _=>an - (intOf i).toNat)
   case atStart=>exact⟨0,Nat.zero_le _,rfl,by simpa using hown0,hext,hbx⟩
   case round =>
    clear hown0 hext hbx c0
    obtain⟨k,hk,rfl,hown,hext,hbx⟩:=hrel
    have c0:=hbx.cell
    by_cases hlt:k<an
    ·obtain⟨lo,hi,hsl⟩:=(HN.out wr hext).aut
     obtain⟨b,o,a,B,m,c,B',m',c',rfl,hs,e0,e1,e2,hat⟩:=hsl.aut hlt
     have hm:=hide hat.n1
     have hm12:m≤12:=by have:=(zv (Hok.out.aut a (List.mem_of_getElem? hs.out))).2.1;rw [← hm.out] at this;omega
     have Htk:=hide (show ss.map (fun s=>s.st.toNat)++(us.take (k+1)).map (fun a=>a.next.length)=(ss.map (fun s=>s.st.toNat)++(us.take k).map (fun a=>a.next.length))++[m] by rw [List.take_add_one,hs.out];simp [hm.out])
     clear hsl hat
     go_wp2_with (at_builtin;refine zN w wr rfl _ _ _ rfl 3 _ 1 8 Tryz.underlying71 zaf rfl (by decide) u3 _ _ _ _ rfl rfl hext hown rfl (zbt _) (by unfold maxLen;omega) (by omega) ?_;intro v' w1 hext1 hown1 hg1 hat1)
     have hbx1:Blk w1 w.heap.size 166 #[.slice PA pn pc,.slice (some ⟨b,o,none⟩) an ac,sv,.int .i64 L,.int .i64 K,.int .i64 G]:=(hg1.block _ hbx.lt (fun e=>own_farP hown hbx (by decide) e.symm rfl)).trans hbx
     go_roundw
     case rel=>exact⟨k+1,by omega,by go_num,by rw [Htk.out,zde];exact hown1,hext1,hbx1⟩
     case measure=>simp [intOf];omega
    ·obtain rfl:an=k:=by omega
     have hown0:wr.ownsRow w.heap.size 3 1 u3 (pn+an) (nats (szs ss us)):=by rw [List.take_of_length_le (by have:=han.out;omega)] at hown;exact hown
     have hle:pn+an=(szs ss us).length:=by have:=zfF hown0;simp [nats] at this;omega
     rw [hle] at hown0
     obtain⟨A5,c5,rfl⟩:=ze hown0
     clear hown
     go_wp2
     go_ret
     exact⟨_,_,rfl,hown0,hext⟩
theorem zhf {A B:Option Addr} {c d:Nat} {lo hi lo' hi':Nat} {sz st:List Nat} {w:World}(h:Lst NatP w lo hi A sz)(h':Lst NatP w lo' hi' B st)(hl:sz.length=st.length)(hb:∀ k,k≤sz.length→encF 0 (sz.take k) (st.take k)≤1048576)(hz:∀ x∈sz,x≤16)(hs:∀ x∈st,x≤16) :
  Calls Tryz.prog 193 #[.slice A sz.length c,.slice B st.length d] w fun e w'=>e=.returned (.int .i64 (encF 0 sz st:Nat))∧Ext w w':=by
 have HA:=hide (fun W (hW:Ext w W)=>h.ext NatP.ok hW)
 have HB:=hide (fun W (hW:Ext w W)=>h'.ext NatP.ok hW)
 have Hb:=hide hb
 have Hz:=hide hz
 have Hs:=hide hs
 have hlen:=h.len
 have hn:∃ n:Nat,Hid (sz.length=n)∧Hid (st.length=n):=⟨sz.length,rfl,hl.symm⟩
 obtain⟨n,hn1,hn2⟩:=hn
 rw [hn1.out] at hlen
 rw [hn1.out,hn2.out]
 clear hb hz hs hl h h'
 go_enter Tryz.func193,Tryz.ntmps193
 go_wp2
 go_loopw [5,6] (fun v i wr=>∃ k y:Nat,k≤n∧i=.int .i64 k∧v=.int .i64 y∧Hid (y=encF 0 (sz.take k) (st.take k))∧y≤1048576∧Ext w wr) (fun _ i _=>n - (intOf i).toNat)
 case atStart=>exact⟨0,0,Nat.zero_le _,rfl,rfl,rfl,by omega,Ext.refl _⟩
 case round =>
  obtain⟨k,y,hk,rfl,rfl,hy,hym,hx⟩:=hrel
  by_cases hlt:k<n
  ·obtain⟨b,o,s,rfl,_,_,hs,hc⟩:=(HA.out wr hx).num (show k<sz.length by rw [hn1.out];exact hlt)
   obtain⟨b',o',t,rfl,_,_,ht,hc'⟩:=(HB.out wr hx).num (show k<st.length by rw [hn2.out];exact hlt)
   have hs16:=Hz.out s (List.mem_of_getElem? hs.out)
   have ht16:=Hs.out t (List.mem_of_getElem? ht.out)
   have c1:∀ W,Ext wr W→W.cell? ⟨b,o+k,none⟩=some (.int .i64 (s:Nat)):=fun W hW=>hW.cell_some hc
   have c2:∀ W,Ext wr W→W.cell? ⟨b',o'+k,none⟩=some (.int .i64 (t:Nat)):=fun W hW=>hW.cell_some hc'
   have hst:=hide (show encF 0 (sz.take (k+1)) (st.take (k+1))=y*s+t by
    have key:∀ (k acc:Nat) (sz st:List Nat),sz[k]?=some s→st[k]?=some t→encF acc (sz.take (k+1)) (st.take (k+1))=encF acc (sz.take k) (st.take k)*s+t:=by
     intro k
     induction k with
     |zero =>
      intro acc sz st h1 h2
      cases sz<;>cases st<;>simp at h1 h2
      subst h1;subst h2
      simp [encF]
     |succ k ih =>
      intro acc sz st h1 h2
      cases sz<;>cases st<;>simp at h1 h2
      simpa [encF] using ih _ _ _ h1 h2
    rw [key k 0 sz st hs.out ht.out,hy.out])
   have hbd:=Hb.out (k+1) (by rw [hn1.out];omega)
   rw [hst.out] at hbd
   have hmul:y*s≤1048576:=by omega
   obtain⟨ys,hys⟩:∃ z:Nat,Hid (y*s=z):=⟨_,rfl⟩
   have hysi:(y:Int)*(s:Int)=(ys:Int):=by rw [← hys.out];exact (Int.natCast_mul y s).symm
   rw [hys.out] at hmul hbd hst
   have hrr:=Ext.refl wr
   clear hc hc'
   go_wp2_with fail
   go_quiet (fail)
   go_wp2_with fail
   go_roundw
   case rel=>exact⟨k+1,ys+t,by omega,by go_num,by go_num,by unfold Hid;rw [hst.out],hbd,hx.drewN _⟩
   case measure=>simp [intOf];omega
  ·obtain rfl:n=k:=by omega
   have hfin:=hide (show y=encF 0 sz st by rw [hy.out,List.take_of_length_le (by rw [hn1.out];exact Nat.le_refl _),List.take_of_length_le (by rw [hn2.out];exact Nat.le_refl _)])
   go_wp2
   go_ret
   exact⟨zK (by rw [hfin.out]),hx⟩
set_option maxHeartbeats 2000000
def decV (sz:List Nat) (x k:Nat):List Nat:=List.replicate k 0++dec (sz.drop k) x
theorem decV_set {sz:List Nat} {x k s:Nat}(h:sz[k]?=some s):(nats (decV sz x (k+1))).set k (.int .i64 ((x / zaw (sz.drop (k+1)) % s:Nat):Int))=nats (decV sz x k):=by
 have hd:sz.drop k=s :: sz.drop (k+1):=by
  obtain⟨hk,rfl⟩:=List.getElem?_eq_some_iff.1 h
  exact List.drop_eq_getElem_cons hk
 unfold decV nats
 rw [hd,dec,List.replicate_succ',List.append_assoc,List.map_append,List.map_append,List.set_append_right _ _ (by simp)]
 simp
theorem zen {A:Option Addr} {c n y0:Nat} {lo hi:Nat} {sz:List Nat} {w:World}(h:Lst NatP w lo hi A sz)(hn:sz.length=n)(hn5:n≤1000)(hz:∀ x∈sz,1≤x∧x≤16)(hy:y0≤4611686018427387904) :
  Calls Tryz.prog 191 #[.slice A n c,.int .i64 y0] w (zbs w (dec sz y0)):=by
 have HA:=hide (fun W (hW:Ext w W)=>h.ext NatP.ok hW)
 have Hz:=hide hz
 have Hn:=hide hn
 clear hz h hn
 go_enter Tryz.func191,Tryz.ntmps191
 go_wp2_with (at_make;refine zbI w w rfl _ _ 71 rfl 3 _ 1 8 Tryz.underlying71 zaf _ _ n rfl rfl (Ext.refl _) (by omega) (by unfold maxLen;omega) ?_;intro w3 hw3 hown3 hx23 hsz3)
 generalize hg:w.heap.size=g at *
 have Hg:=hide hg
 clear hg hx23 hsz3
 go_loopw [1,6] (fun v i wr=>∃ k y:Nat,k≤n∧i=.int .i64 ((k:Int) - 1)∧v=.int .i64 y∧y≤4611686018427387904∧Hid (y=y0 / zaw (sz.drop k))∧wr.ownsRow g 3 1 (.slice (some ⟨g,0,none⟩) n n) n (nats (decV sz y0 k))∧Ext w wr) (fun _ i _=>(intOf i+1).toNat)
 case atStart=>exact⟨n,y0,Nat.le_refl _,by go_num,rfl,hy,by unfold Hid;rw [List.drop_of_length_le (by have:=Hn.out;omega)];simp [zaw],by rw [decV,List.drop_of_length_le (by have:=Hn.out;omega)];simpa [nats,dec,Value.cells,toList_madeCells_one] using hown3,hw3⟩
 case round =>
  clear hown3 hw3
  obtain⟨k,y,hk,rfl,rfl,hym,hyo,hown,hx⟩:=hrel
  by_cases hlt:0<k
  ·obtain⟨j,rfl⟩:∃ j,k=j+1:=⟨k - 1,by omega⟩
   obtain⟨b,o,s,rfl,_,_,hs,hc⟩:=(HA.out wr hx).num (show j<sz.length by have:=Hn.out;omega)
   obtain⟨s1,s16⟩:=Hz.out s (List.mem_of_getElem? hs.out)
   obtain⟨o0,g0⟩:=zbg hown j (by omega)
   have f0:=hown.frozenAt j
   have hmd:(y:Int) % (s:Int)=((y % s:Nat):Int):=(Int.natCast_emod y s).symm
   have hdv:(y:Int) / (s:Int)=((y / s:Nat):Int):=(Int.natCast_ediv y s).symm
   have hst:=hown.stored j (.int .i64 ((y % s:Nat):Int))
   rw [hyo.out,decV_set hs.out,← hyo.out] at hst
   have hdr:=hide (show y / s=y0 / zaw (sz.drop j) by
    rw [hyo.out,Nat.div_div_eq_div_mul,List.drop_eq_getElem_cons (show j<sz.length by have:=Hn.out;omega),zaw]
    have:sz[j]'(by have:=Hn.out;omega)=s:=by
     obtain⟨h1,h2⟩:=List.getElem?_eq_some_iff.1 hs.out
     exact h2
    rw [this,Nat.mul_comm])
   have hle:y / s≤4611686018427387904:=Nat.le_trans (Nat.div_le_self _ _) hym
   have hs0:¬ (s=0):=by omega
   have hgw:w.heap.size≤g:=by have:=Hg.out;omega
   have hj1:((j+1:Nat):Int) - 1=(j:Int):=by omega
   rw [hj1]
   have hc2:=(HA.out _ (hx.setCell (p:=⟨g,j,none⟩) hgw (.int .i64 ((y % s:Nat):Int)))).num2 hs.out
   generalize y % s=ym at *
   generalize y / s=yd at *
   go_wp2
   go_roundw
   case rel=>exact⟨j,yd,by omega,rfl,rfl,hle,hdr,hst.1,hx.setCell (p:=⟨g,j,none⟩) hgw _⟩
   case measure=>simp [intOf]
  ·obtain rfl:k=0:=by omega
   have hlen:=zcC sz y0
   have hfin:=hide (show wr.ownsRow w.heap.size 3 1 (.slice (some ⟨g,0,none⟩) (dec sz y0).length n) (dec sz y0).length (nats (dec sz y0)) by
    rw [hlen,Hn.out,Hg.out]
    simpa [decV] using hown)
   have hln:(dec sz y0).length=n:=by have:=Hn.out;omega
   go_wp2
   go_ret
   exact⟨some ⟨g,0,none⟩,n,by rw [hln];rfl,hfin.out,hx⟩
theorem spec_l4In {A:Option Addr} {c n:Nat} {lo hi x:Nat} {xs:List Nat} {w:World}(h:Lst NatP w lo hi A xs)(hn:xs.length=n) :
  Calls Tryz.prog 214 #[.slice A n c,.int .i64 x] w fun e w'=>e=.returned (.bool (decide (x∈xs)))∧w=w':=by
 have Hn:=hide hn
 have hlen:=h.len
 rw [hn] at hlen
 clear hn
 go_enter Tryz.func214,Tryz.ntmps214
 go_wp2
 go_loop [5] (fun i=>∃ k:Nat,k≤n∧i=.int .i64 k∧Hid (∀ (j z:Nat),j<k→xs[j]?=some z→z≠x)) (fun i=>n - (intOf i).toNat)
 case atStart=>exact⟨0,Nat.zero_le _,rfl,(show Hid _ from fun j z hj=>by omega)⟩
 case round =>
  obtain⟨k,hk,rfl,hno⟩:=hrel
  by_cases hlt:k<n
  ·obtain⟨b,o,z,rfl,_,_,hz,hc⟩:=h.num (show k<xs.length by rw [Hn.out];exact hlt)
   by_cases hzx:z=x
   ·subst hzx
    have hm:=hide (List.mem_of_getElem? hz.out)
    go_wp2
    go_ret
    exact⟨zh (by rw [decide_eq_true hm.out]),rfl⟩
   ·have hne:((z:Int)==(x:Int))=false:=by simp;omega
    go_wp2
    go_round
    case rel=>exact⟨k+1,by omega,by go_num,(show Hid _ from fun j y hj hy=>by
     by_cases e:j=k
     ·subst e
      have:=hz.out
      rw [hy] at this
      injection this with this
      subst this
      exact hzx
     ·exact hno.out j y (by omega) hy)⟩
    case measure=>simp [intOf];omega
  ·obtain rfl:n=k:=by omega
   have hm:=hide (show ¬ x∈xs from fun hx=>by
    obtain⟨j,hj⟩:=List.getElem?_of_mem hx
    exact hno.out j x (by have:=(List.getElem?_eq_some_iff.1 hj).1;rw [Hn.out] at this;exact this) hj rfl)
   go_wp2
   go_ret
   exact⟨zh (by rw [decide_eq_false hm.out]),rfl⟩
def accB (a:Aut) (q:Nat):Bool:=a.acc.getD q false
theorem zfR {PA AA:Option Addr} {pn pc an ac:Nat} {sv:Value} {L K G:Int} {ss:List Sys} {us:List Aut} {w:World} {SA:Option Addr} {sn sc lo hi i q:Nat} {st:List Nat} {a:Aut}(h:zdW w PA pn AA an ss us)(h':Lst NatP w lo hi SA st)(hsn:st.length=sn)(hi:us[i]?=some a)(hq:st[pn+i]?=some q)(hqa:q<a.acc.length) :
  Calls Tryz.prog 212 #[.agg #[.slice PA pn pc,.slice AA an ac,sv,.int .i64 L,.int .i64 K,.int .i64 G],.slice SA sn sc,.int .i64 i] w fun e w'=>e=.returned (.bool (accB a q))∧Ext w w':=by
 have hia:i<an:=by obtain⟨_,_,h1⟩:=h.aut;rw [h1.1];exact (List.getElem?_eq_some_iff.1 hi).1
 have hsq:pn+i<sn:=by rw [← hsn];exact (List.getElem?_eq_some_iff.1 hq).1
 obtain⟨lo',hi',hal⟩:=h.aut
 have hlen:=hal.len
 have hlen':pn≤9223372036854775807:=by obtain⟨_,_,h1⟩:=h.sys;exact h1.len
 have hlen2:=h'.len
 rw [hsn] at hlen2
 obtain⟨b,o,a',B,m,c,B',m',c',rfl,ha',e0,e1,e2,hat⟩:=hal.aut hia
 obtain rfl:a=a':=by have:=ha'.out;rw [hi] at this;exact Option.some.inj this
 obtain⟨bs,os,q',rfl,_,_,hq',hc⟩:=h'.num (show pn+i<st.length by rw [hsn];exact hsq)
 obtain rfl:q=q':=by have:=hq'.out;rw [hq] at this;exact Option.some.inj this
 have hm':q<m':=by rw [hat.n2];exact hqa
 obtain⟨ad,x,rfl,_,_,hx,hcx⟩:=hat.2.2.bool hm'
 have hfin:=hide (show accB a q=x by unfold accB;rw [List.getD_eq_getElem?_getD,hx.out];rfl)
 have hml:=hat.2.2.len
 have hw1:Ext w (w.alloc (.cells #[.slice PA pn pc,.slice (some ⟨b,o,none⟩) an ac,sv,.int .i64 L,.int .i64 K,.int .i64 G] 166)):=(Ext.refl w).alloc _
 have hb1:=Blk.new w 166 #[.slice PA pn pc,.slice (some ⟨b,o,none⟩) an ac,sv,.int .i64 L,.int .i64 K,.int .i64 G]
 have c1:∀ W,Ext w W→W.cell? ⟨b,o+i*3+2,none⟩=some (.slice (some ad) m' c'):=fun W hW=>hW.cell_some e2
 have c2:∀ W,Ext w W→W.cell? ⟨bs,os+(pn+i),none⟩=some (.int .i64 (q:Nat)):=fun W hW=>hW.cell_some hc
 have c3:∀ W,Ext w W→W.cell? (ad.add q)=some (.bool x):=fun W hW=>hW.cell_some hcx
 clear hal hat h h' e0 e1 e2 hc hcx hx hq' ha' hi hq hqa
 go_enter Tryz.func212,Tryz.ntmps212
 go_wp2_with fail
 generalize w.alloc (.cells #[.slice PA pn pc,.slice (some ⟨b,o,none⟩) an ac,sv,.int .i64 L,.int .i64 K,.int .i64 G] 166)=w1 at *
 have c0:=hb1.cell
 have c1:=c1 w1 hw1
 have c2:=c2 w1 hw1
 have c3:=c3 w1 hw1
 have hpi:(pn:Int)+(i:Int)<(sn:Int):=by omega
 have hii:(i:Int)<(an:Int):=by omega
 have hqi:(q:Int)<(m':Int):=by omega
 go_quiet (fail)
 go_wp2_with fail
 go_ret
 exact⟨zh (by rw [hfin.out]),hw1.drewN _⟩
set_option maxHeartbeats 2000000
def zaX (w:World) (A:Option Addr) (m:Nat) (l:List Nat):Prop:=
 m=l.length∧m≤9223372036854775807∧(0<m→∃ (g o:Nat) (cs:Array Value),A=some ⟨g,o,none⟩∧w.heap[g]?=some (.cells cs 3 (0,0))∧∀ j x,l[j]?=some x→w.cell? ⟨g,o+j,none⟩=some (.int .i64 (x:Nat)))
theorem zaX.frm {S:Nat→Prop} {w w':World} {A:Option Addr} {m:Nat} {l:List Nat}(h:zaX w A m l)(hb:Frm S w w')(hS:∀ k,S k→∀ cs,w.heap[k]?≠some (.cells cs 3 (0,0))):zaX w' A m l:=by
 refine⟨h.1,h.2.1,fun h0=>?_⟩
 obtain⟨g,o,cs,e,hh,hc⟩:=h.2.2 h0
 have hlt:=(Array.getElem?_eq_some_iff.1 hh).1
 have hn:¬ S g:=fun hs=>hS g hs cs hh
 exact⟨g,o,cs,e,(hb.block g hlt hn).trans hh,fun j x hx=>(World.cell?_of_block (w:=w) (hb.block g hlt hn)).trans (hc j x hx)⟩
theorem zaX.ext {w w':World} {A:Option Addr} {m:Nat} {l:List Nat}(h:zaX w A m l)(hb:Ext w w'):zaX w' A m l:=h.frm (S:=fun _=>False) hb (fun _ hk=>hk.elim)
theorem zaX.at_ {w:World} {A:Option Addr} {m k:Nat} {l:List Nat}(h:zaX w A m l)(hk:k<m):∃ (g o x:Nat),A=some ⟨g,o,none⟩∧Hid (l[k]?=some x)∧w.cell? ⟨g,o+k,none⟩=some (.int .i64 (x:Nat)):=by
 obtain⟨g,o,cs,e,_,hc⟩:=h.2.2 (by omega)
 have hx:l[k]?=some (l[k]'(by have:=h.1;omega)):=List.getElem?_eq_getElem _
 exact⟨g,o,_,e,hx,hc k _ hx⟩
theorem zaX.own {w:World} {base n c:Nat} {A:Option Addr} {l:List Nat}(h:w.ownsRow base 3 1 (.slice A n c) n (nats l)):zaX w A n l:=by
 have hl:=h.1
 rw [zfE] at hl
 refine⟨by omega,(Reads.of_own h).len,fun h0=>?_⟩
 rcases h.2 with ⟨_,h1⟩|⟨g,cap,cur,hv,_,hh,_⟩
 ·omega
 ·have hA:A=some ⟨g,0,none⟩:=by injection hv
  subst hA
  refine⟨g,0,cur,rfl,hh,fun j x hx=>?_⟩
  have hj:=(List.getElem?_eq_some_iff.1 hx).1
  rw [Nat.zero_add,h.cellAt j (by omega)]
  simp [nats,hx]
theorem info_step:(Tryz.prog.info? 199).map (fun i=>(i.zero,i.size,i.bytes))=some (some (.agg #[.int .i64 0,.int .i64 0,.slice none 0 0]),3,40):=by kernel_rfl
def zbC:List (Stp × Value)→List Value
 |[]=>[]
 |(p,v) :: r=>.int .i64 p.parent :: .int .i64 (p.letter:Nat) :: v :: zbC r
theorem zgl (l m:List (Stp × Value)):zbC (l++m)=zbC l++zbC m:=by
 induction l with
 |nil=>rfl
 |cons x r ih=>obtain⟨p,v⟩:=x;simp [zbC,ih]
theorem zfT {l:List (Stp × Value)} {k:Nat} {p:Stp} {v:Value}(h:l[k]?=some (p,v)):(zbC l)[k*3]?=some (.int .i64 p.parent)∧(zbC l)[k*3+1]?=some (.int .i64 (p.letter:Nat))∧(zbC l)[k*3+2]?=some v:=by
 induction l generalizing k with
 |nil=>simp at h
 |cons a r ih =>
  cases k with
  |zero=>simp at h;subst h;exact⟨rfl,rfl,rfl⟩
  |succ k =>
   obtain⟨p',v'⟩:=a
   have:=ih (k:=k) (by simpa using h)
   have e1:(k+1)*3=k*3+1+1+1:=by omega
   refine⟨?_,?_,?_⟩<;>rw [e1]<;>simp only [zbC,List.getElem?_cons_succ]
   ·exact this.1
   ·exact this.2.1
   ·exact this.2.2
def Nodes (w:World) (sts:List (Stp × Value)):Prop:=∀ (k:Nat) (p:Stp) (v:Value),sts[k]?=some (p,v)→∃ A c,v=.slice A p.nodes.length c∧zaX w A p.nodes.length p.nodes
theorem Nodes.frm {S:Nat→Prop} {w w':World} {sts:List (Stp × Value)}(h:Nodes w sts)(hb:Frm S w w')(hS:∀ k,S k→∀ cs,w.heap[k]?≠some (.cells cs 3 (0,0))):Nodes w' sts:=fun k p v hk=>by
 obtain⟨A,c,e,hx⟩:=h k p v hk
 exact⟨A,c,e,hx.frm hb hS⟩
structure Sea (w0 w:World) (bs bg bt gs N cs:Nat) (fg:Value) (S:List Bool) (vst:Value) (sts:List (Stp × Value)):Prop where
 ext:Ext w0 w
 vs:Blk w bs 25 #[.slice (some ⟨gs,0,none⟩) N cs]
 ds:w.ownsRow w0.heap.size 4 1 (.slice (some ⟨gs,0,none⟩) N cs) N (zaE S)
 vg:∃ t,Blk w bg t #[fg]
 vt:Blk w bt 197 #[vst]
 dt:w.ownsRow w0.heap.size 199 3 vst sts.length (zbC sts)
 nd:Nodes w sts
 hs:w0.heap.size≤bs
 hg:w0.heap.size≤bg
 ht:w0.heap.size≤bt
 hgt:bg≠bt
 hgg:bg≠gs
 hgv:∀ b,vst.ownBlock=some b→b≠bg
section
variable {w0 w w':World} {bs bg bt gs N cs:Nat} {fg vst:Value} {S:List Bool} {sts:List (Stp × Value)}
theorem Sea.far {T:Nat→Prop} {H:Nat}(h:Sea w0 w bs bg bt gs N cs fg S vst sts)(hb:Frm T w w')(hT:∀ k,T k→H≤k)(h1:bs<H)(h2:bg<H)(h3:bt<H)(h4:gs<H)(h5:∀ b,vst.ownBlock=some b→b<H)(h0:w0.heap.size≤H)(hn:Nodes w' sts):Sea w0 w' bs bg bt gs N cs fg S vst sts:=by
 obtain⟨t,hvg⟩:=h.vg
 refine⟨h.ext.frm hb (fun k hk hS=>by have:=hT k hS;omega),h.vs.frm hb (fun hS=>by have:=hT _ hS;omega),zb h.ds hb (fun b hv hS=>?_),⟨t,hvg.frm hb (fun hS=>by have:=hT _ hS;omega)⟩,h.vt.frm hb (fun hS=>by have:=hT _ hS;omega),zb h.dt hb (fun b hv hS=>by have:=hT _ hS;have:=h5 b hv;omega),hn,h.hs,h.hg,h.ht,h.hgt,h.hgg,h.hgv⟩
 have hbg:gs=b:=by simpa [Value.ownBlock] using hv
 have:=hT _ hS
 omega
theorem Sea.ext_ (h:Sea w0 w bs bg bt gs N cs fg S vst sts)(hx:Ext w w'):Sea w0 w' bs bg bt gs N cs fg S vst sts:=by
 obtain⟨t,hvg⟩:=h.vg
 exact⟨h.ext.trans hx,h.vs.ext hx,zd h.ds hx,⟨t,hvg.ext hx⟩,h.vt.ext hx,zd h.dt hx,h.nd.frm (S:=fun _=>False) hx (fun _ hk=>hk.elim),h.hs,h.hg,h.ht,h.hgt,h.hgg,h.hgv⟩
theorem Sea.gs_lt (h:Sea w0 w bs bg bt gs N cs fg S vst sts):w0.heap.size≤gs∧gs<w.heap.size:=h.ds.lt gs rfl
theorem Sea.gs_row (h:Sea w0 w bs bg bt gs N cs fg S vst sts):∃ cur,w.heap[gs]?=some (.cells cur 4 (0,0)):=by
 rcases h.ds.2 with ⟨hv,_⟩|⟨g,cap,cur,hv,_,hh,_⟩
 ·injection hv with h1;cases h1
 ·have:gs=g:=by injection hv with h1;injection h1 with h1;injection h1
  subst this
  exact⟨cur,hh⟩
theorem Sea.vst_row (h:Sea w0 w bs bg bt gs N cs fg S vst sts) {b:Nat}(hb:vst.ownBlock=some b):∃ cur,w.heap[b]?=some (.cells cur 199 (0,0)):=by
 rcases h.dt.2 with ⟨rfl,_⟩|⟨g,cap,cur,rfl,_,hh,_⟩
 ·simp [Value.ownBlock] at hb
 ·have hg:g=b:=by simpa [Value.ownBlock] using hb
  subst hg
  exact⟨cur,hh⟩
theorem Sea.mark (h:Sea w0 w bs bg bt gs N cs fg S vst sts) {n:Nat}:Sea w0 (w.setCell ⟨gs,n,none⟩ (.bool true)) bs bg bt gs N cs fg (S.set n true) vst sts:=by
 obtain⟨t,hvg⟩:=h.vg
 obtain⟨cur,hh⟩:=h.gs_row
 have hf:=Frm.setCell w gs n (.bool true)
 have hne:∀ {b:Nat} {t:TypeId} {cs:Array Value},w.heap[b]?=some (.cells cs t (0,0))→t≠4→b≠gs:=by
  rintro b t cs hb ht rfl
  rw [hh] at hb
  injection hb with hb
  injection hb with _ h2
  exact ht h2.symm
 have hset:(zaE S).set n (.bool true)=zaE (S.set n true):=by simp [zaE,List.map_set]
 have hds:=(h.ds.stored n (.bool true)).1
 rw [hset] at hds
 refine⟨h.ext.setCell h.gs_lt.1 _,h.vs.frm hf (hne h.vs (by decide)),hds,⟨t,hvg.frm hf h.hgg⟩,h.vt.frm hf (hne h.vt (by decide)),zb h.dt hf (fun b hv=>?_),h.nd.frm hf (fun k hk cs hc=>?_),h.hs,h.hg,h.ht,h.hgt,h.hgg,h.hgv⟩
 ·obtain⟨cur',hh'⟩:=h.vst_row hv
  exact hne hh' (by decide)
 ·exact hne hc (by decide) hk
theorem Sea.push {g cap l c':Nat} {A':Option Addr} {p:Stp}(h:Sea w0 w bs bg bt gs N cs fg S vst sts)(hown:w'.ownsRow w0.heap.size 199 3 (.slice (some ⟨g,0,none⟩) (sts.length+1) cap) (sts.length+1) (zbC sts++[.int .i64 p.parent,.int .i64 (p.letter:Nat),.slice A' l c']))
  (hg:w.grownBy w' vst.ownBlock) (hat:vst.ownBlock=some g∨g=w.heap.size+1) (hl:l=p.nodes.length) (hA:zaX w A' l p.nodes) :
  Hid (w'.cell? ⟨bt,0,none⟩=some vst)∧w'.frozen? ⟨bt,0,none⟩=false∧Sea w0 (w'.setCell ⟨bt,0,none⟩ (.slice (some ⟨g,0,none⟩) (sts.length+1) cap)) bs bg bt gs N cs fg S (.slice (some ⟨g,0,none⟩) (sts.length+1) cap) (sts++[(p,.slice A' l c')]):=by
 obtain⟨t,hvg⟩:=h.vg
 have hf:=Frm.of_grown hg
 have hrow:∀ {b:Nat} {t:TypeId} {cs:Array Value},w.heap[b]?=some (.cells cs t (0,0))→t≠199→¬ (vst.ownBlock=some b):=by
  intro b t cs hb ht hv
  obtain⟨cur,hh⟩:=h.vst_row hv
  rw [hh] at hb
  injection hb with hb
  injection hb with _ h2
  exact ht h2.symm
 obtain⟨cur,hgs⟩:=h.gs_row
 have hvt:Blk w' bt 197 #[vst]:=h.vt.frm hf (hrow h.vt (by decide))
 have hvs:=h.vs.frm hf (hrow h.vs (by decide))
 have hds:=zb h.ds hf (fun b hv=>by
  have hb:gs=b:=by simpa [Value.ownBlock] using hv
  subst hb
  exact hrow hgs (by decide))
 have hvg':=hvg.frm hf (fun hv=>h.hgv _ hv rfl)
 have hnd:=h.nd.frm hf (fun k hk cs hc=>hrow hc (by decide) hk)
 have hA':=hA.frm hf (fun k hk cs hc=>hrow hc (by decide) hk)
 have hgs':w'.heap[gs]?=some (.cells cur 4 (0,0)):=(hf.block gs h.gs_lt.2 (hrow hgs (by decide))).trans hgs
 have hx:Ext w0 w':=h.ext.frm hf (fun k hk hv=>by have:=(h.dt.lt k hv).1;omega)
 have hgbg:g≠bg:=by
  rcases hat with h1|h1
  ·exact h.hgv g h1
  ·have:=hvg.lt;omega
 have hgr:∃ cur,w'.heap[g]?=some (.cells cur 199 (0,0)):=by
  rcases hown.2 with ⟨hv,_⟩|⟨g',cap',cur,hv,_,hh,_⟩
  ·injection hv with h1;cases h1
  ·have:g=g':=by injection hv with h1;injection h1 with h1;injection h1
   subst this
   exact⟨cur,hh⟩
 obtain⟨cur',hgr⟩:=hgr
 have hf2:=Frm.setCell w' bt 0 (.slice (some ⟨g,0,none⟩) (sts.length+1) cap)
 have hne:∀ {b:Nat} {t:TypeId} {cs:Array Value},w'.heap[b]?=some (.cells cs t (0,0))→t≠197→b≠bt:=by
  rintro b t cs hb ht rfl
  unfold Blk at hvt
  rw [hvt] at hb
  injection hb with hb
  injection hb with _ h2
  exact ht h2.symm
 have hdt:=zb hown hf2 (fun b hv=>by
  have hb:g=b:=by simpa [Value.ownBlock] using hv
  subst hb
  exact hne hgr (by decide))
 have hnd2:=hnd.frm hf2 (fun k hk cs hc=>hne hc (by decide) hk)
 have hA2:=hA'.frm hf2 (fun k hk cs hc=>hne hc (by decide) hk)
 refine⟨hvt.cell 0,hvt.frozen 0,hx.setCell h.ht _,hvs.frm hf2 (hne hvs (by decide)),zb hds hf2 (fun b hv=>by
  have hb:gs=b:=by simpa [Value.ownBlock] using hv
  subst hb
  exact hne hgs' (by decide)),⟨t,hvg'.frm hf2 h.hgt⟩,by simpa using hvt.set_ 0 _,?_,?_,h.hs,h.hg,h.ht,h.hgt,h.hgg,fun b hv=>?_⟩
 ·rw [zgl]
  simpa [zbC] using hdt
 ·intro k p' v' hk
  rcases Nat.lt_trichotomy k sts.length with h1|h1|h1
  ·rw [List.getElem?_append_left h1] at hk
   exact hnd2 k p' v' hk
  ·rw [List.getElem?_append_right (by omega),h1,Nat.sub_self] at hk
   have:=Option.some.inj hk
   injection this with e1 e2
   subst e1;subst e2
   subst hl
   exact⟨A',c',rfl,hA2⟩
  ·rw [List.getElem?_eq_none (by simp;omega)] at hk
   cases hk
 ·have hb:g=b:=by simpa [Value.ownBlock] using hv
  subst hb
  exact hgbg
end
set_option maxHeartbeats 2000000
def RetVisit (w0 w:World) (bs bg bt gs N cs:Nat) (fg:Value) (S:List Bool) (sts:List (Stp × Value)) (goal:Nat→Bool) (parent:Int) (letter:Nat) (ns:List Nat) (e:Ending) (w':World):Prop:=
 e=.returned (.bool ((vis S ns).2.any goal))∧Ext w0 w'∧w.heap.size≤w'.heap.size ∧
  ∃ (vst:Value) (sts':List (Stp × Value)),Sea w0 w' bs bg bt gs N cs fg (vis S ns).1 vst sts' ∧
   (((vis S ns).2=[]∧sts'=sts)∨((vis S ns).2≠[]∧∃ v,sts'=sts++[(⟨parent,letter,(vis S ns).2⟩,v)]))
theorem vis_take {S:List Bool} {ns:List Nat} {k n:Nat}(h:ns[k]?=some n):vis S (ns.take (k+1))=visN (vis S (ns.take k)) n:=by
 rw [List.take_add_one,h]
 exact vis_snoc _ _ _
theorem Frm.grown_ {T:Nat→Prop} {w W W':World} {row:Option Nat}(h:Frm T w W)(hg:W.grownBy W' row)(hr:∀ k,row=some k→w.heap.size≤k):Frm T w W':=
 ⟨hg.os.trans h.os,hg.tape.trans h.tape,hg.output.trans h.output,Nat.le_trans h.size hg.size,fun k hk hn=>(hg.block k (Nat.lt_of_lt_of_le hk h.size) (fun e=>by have:=hr k e.symm;omega)).trans (h.block k hk hn)⟩
theorem any_snoc {l:List Nat} {n:Nat} {p:Nat→Bool}:(l++[n]).any p=(l.any p || p n):=by simp
set_option maxRecDepth 100000 in
theorem zfW {w0 w:World} {bs bg bt gs N cs kg:Nat} {capg:Array Value} {goal:Nat→Bool} {S:List Bool} {vst:Value} {sts:List (Stp × Value)} {A:Option Addr} {m c letter:Nat} {parent:Int} {ns:List Nat}
  (h:Sea w0 w bs bg bt gs N cs (.func (.func kg) #[] capg) S vst sts) (hA:zaX w A m ns) (hN:∀ n∈ns,n<N) (hm:m≤1099511627776) (hst:sts.length≤1073741824)
  (hin:∀ args W,(callFunc kg args).run Tryz.prog W=.ok (.enter kg args) W) (hgoal:∀ W,Ext w0 W→∀ n,n<N→Calls Tryz.prog kg (#[.int .i64 (n:Nat)]++capg) W fun e W'=>e=.returned (.bool (goal n))∧Ext W W') :
  Calls Tryz.prog 180 #[.int .i64 parent,.int .i64 letter,.slice A m c,.pointer (some ⟨bs,0,none⟩),.pointer (some ⟨bg,0,none⟩),.pointer (some ⟨bt,0,none⟩)] w (RetVisit w0 w bs bg bt gs N cs (.func (.func kg) #[] capg) S sts goal parent letter ns):=by
 have hSl:=hide (show S.length=N by have:=h.ds.1;rw [zeG] at this;omega)
 have hnl:=hide hA.1
 have hNs:=hide hN
 have Hgoal:=hide hgoal
 have h1:=h.vs.lt
 have h2:bg<w.heap.size:=by obtain⟨t,hh⟩:=h.vg;exact hh.lt
 have h3:=h.vt.lt
 have h4:=h.gs_lt
 have h5:=hide (fun b (hb:vst.ownBlock=some b)=>(h.dt.lt b hb).2)
 have h0:=h.ext.size
 have HgsI:=hide (show ∀ k,k=gs→∀ cs,w.heap[k]?≠some (.cells cs 3 (0,0)) by
  rintro k rfl cs' hc
  obtain⟨cur,hh⟩:=h.gs_row
  rw [hh] at hc
  injection hc with hc
  injection hc with _ h2
  exact absurd h2 (by decide))
 have Hnd:=hide h.nd
 clear hN hgoal
 go_enter Tryz.func180,Tryz.ntmps180
 go_wp2_with fail
 go_loopw [10,11,16] (fun v q i wr=>∃ k:Nat,k≤m∧i=.int .i64 k∧q=.bool ((vis S (ns.take k)).2.any goal)∧wr.ownsRow w.heap.size 3 1 v (vis S (ns.take k)).2.length (nats (vis S (ns.take k)).2)∧(vis S (ns.take k)).2.length≤k ∧
   Sea w0 wr bs bg bt gs N cs (.func (.func kg) #[] capg) (vis S (ns.take k)).1 vst sts∧Frm (fun b=>b=gs) w wr) (fun _ _ i _=>m - (intOf i).toNat)
 case atStart=>exact⟨0,Nat.zero_le _,rfl,rfl,World.ownsRow_nil _ _ _ _,Nat.zero_le _,h,Frm.refl _ _⟩
 case round =>
  clear h
  obtain⟨k,hk,rfl,rfl,hown,hfl,h,hfr⟩:=hrel
  have hTl:=hide (show (vis S (ns.take k)).1.length=N by have:=h.ds.1;rw [zeG] at this;omega)
  by_cases hlt:k<m
  ·obtain⟨g,o,n,rfl,hx,hc⟩:=(hA.frm hfr HgsI.out).at_ hlt
   have hnN:=hNs.out n (List.mem_of_getElem? hx.out)
   have hv1:=hide (vis_take (S:=S) hx.out)
   generalize vis S (ns.take k)=st at *
   obtain⟨T,fr⟩:=st
   simp only at hown hfl h hTl
   obtain⟨tb,htb⟩:∃ tb,Hid (T[n]?=some tb):=⟨_,List.getElem?_eq_getElem (by have:=hTl.out;omega)⟩
   have htd:=hide (show T.getD n true=tb by rw [List.getD_eq_getElem?_getD,htb.out];rfl)
   have cS:=h.vs.cell
   have cD:wr.cell? ⟨gs,n,none⟩=some (.bool tb):=by rw [h.ds.cellAt n (by omega)];simp [zaE,htb.out]
   have fD:=h.ds.frozenAt n
   cases tb
   ·have hv2:=hide (hv1.out.trans (show visN (T,fr) n=(T.set n true,fr++[n]) by unfold visN;rw [if_neg (by rw [htd.out];decide)]))
    have hmk:=h.mark (n:=n)
    have hfm:Frm (fun b=>b=gs) w (wr.setCell ⟨gs,n,none⟩ (.bool true)):=hfr.cell rfl _
    have hgsw:=h4.2
    have hownm:=zb hown (Frm.setCell wr gs n (.bool true)) (fun b hv hS=>by have:=(hown.lt b hv).1;omega)
    have hcf:∃ tg,Blk wr bg tg #[.func (.func kg) #[] capg]:=h.vg
    cases hfb:fr.any goal
    all_goals
     have Hfb:=hide hfb
     clear hfb
     go_upto_region 8 with fail
     generalize wr.setCell ⟨gs,n,none⟩ (.bool true)=w2 at *
     go_wp2_with (at_builtin;refine zV w _ rfl _ _ _ rfl 3 _ 1 8 Tryz.underlying71 zaf rfl (by decide) u10 fr.length (nats fr) _ _ rfl rfl hfm.size hownm rfl (by simp [Value.oneCell']) (by unfold maxLen;omega) (by omega) ?_;intro g5 cap5 w3 hown3 hg3 hat3 hlt3;have hf3:Frm (fun b=>b=gs) w w3:=hfm.grown_ hg3 (fun k hk=>(hownm.lt k hk).1);have hsea3:=hmk.far (Frm.of_grown hg3) (fun k hk=>(hownm.lt k hk).1) h1 h2 h3 h4.2 h5.out h0 (Hnd.out.frm hf3 HgsI.out);obtain⟨tg,hbg3⟩:=hsea3.vg;have cg3:=hbg3.cell)
    ·refine (Hgoal.out w3 hsea3.ext n hnN).mono ?_
     rintro e w4 ⟨rfl,hx4⟩
     go_wp2_with fail
     go_roundw
     case rel=>exact⟨k+1,by omega,by go_num,by rw [hv2.out,any_snoc,Hfb.out];rfl,by rw [hv2.out];simpa [nats] using zd hown3 hx4,by rw [hv2.out];simp;omega,by rw [hv2.out];exact hsea3.ext_ hx4,hf3.ext hx4⟩
     case measure=>simp [intOf];omega
    ·go_roundw
     case rel=>exact⟨k+1,by omega,by go_num,by rw [hv2.out,any_snoc,Hfb.out];rfl,by rw [hv2.out];simpa [nats] using hown3,by rw [hv2.out];simp;omega,by rw [hv2.out];exact hsea3,hf3⟩
     case measure=>simp [intOf];omega
   ·have hv2:=hide (hv1.out.trans (show visN (T,fr) n=(T,fr) by unfold visN;rw [if_pos htd.out]))
    go_wp2_with fail
    go_roundw
    case rel=>exact⟨k+1,by omega,by go_num,by rw [hv2.out],by rw [hv2.out];exact hown,by rw [hv2.out];exact Nat.le_succ_of_le hfl,by rw [hv2.out];exact h,hfr⟩
    case measure=>simp [intOf];omega
  ·obtain rfl:k=m:=by omega
   have htk:ns.take k=ns:=List.take_of_length_le (by have:=hnl.out;omega)
   rw [htk] at hown hfl h ⊢
   have hsz:=hfr.size
   clear htk hTl
   obtain⟨A',c',rfl⟩:=ze hown
   have hA':=zaX.own hown
   have hres:=hide (show ∀ W vst' sts',Sea w0 W bs bg bt gs N cs (.func (.func kg) #[] capg) (vis S ns).1 vst' sts'→w.heap.size≤W.heap.size→(((vis S ns).2=[]∧sts'=sts)∨((vis S ns).2≠[]∧∃ v,sts'=sts++[(⟨parent,letter,(vis S ns).2⟩,v)]))→RetVisit w0 w bs bg bt gs N cs (.func (.func kg) #[] capg) S sts goal parent letter ns (.returned (.bool ((vis S ns).2.any goal))) W from fun W vst' sts' h1 h2 h3=>⟨rfl,h1.ext,h2,vst',sts',h1,h3⟩)
   clear Hgoal hin
   generalize vis S ns=st at *
   obtain⟨T,fr⟩:=st
   simp only at hown hfl h hA' hres ⊢
   generalize fr.any goal=found at *
   cases hfr0:fr with
   |nil =>
    subst hfr0
    go_wp2_with fail
    go_ret
    exact hres.out _ _ _ h hsz (Or.inl (by simp))
   |cons x r =>
    have hfl0:0<fr.length:=by rw [hfr0];simp
    have hfne:=hide (show fr≠[] by rw [hfr0];simp)
    rw [← hfr0]
    clear hfr0
    have cT:=h.vt.cell
    go_wp2_with (at_builtin;refine zV w0 wr rfl _ _ _ rfl 199 _ 3 40 Tryz.underlying197 info_step rfl (by decide) vst sts.length (zbC sts) _ _ rfl rfl h.ext.size h.dt rfl (by simp [Value.oneCell']) (by unfold maxLen;omega) (by omega) ?_;intro g5 cap5 w3 hown3 hg3 hat3 hlt3;obtain⟨q1,q2,q3⟩:=h.push (p:=⟨parent,letter,fr⟩) hown3 hg3 hat3 rfl hA';have q1':=q1.out;have hsz3:=hg3.size)
    go_ret
    exact hres.out _ _ _ q3 (by simp;omega) (Or.inr ⟨hfne.out,_,rfl⟩)
end Go.Proofs.YtndhahednhnnbaaGreatDoor
namespace Go.Proofs.YtndhahednhnnbaaGreatDoor
open Go Go.RowKit Go.Lib Go.Sort
set_option maxHeartbeats 2000000
abbrev enc8 (n:Int):Value:=.int .u8 n
set_option maxRecDepth 1000000 in
theorem rev_bytes (blk off cap:Nat) (d:Array Int) (w:World)(hH:Holds enc8 w blk off d)(hsz:d.size≤9223372036854775807) :
  Calls Tryz.prog 209 #[.slice (some ⟨blk,off,none⟩) d.size cap] w fun e w'=>e=.returned (.tuple #[])∧∃ n,w'=putRow enc8 (Sort.ahead w n) blk off d.reverse:=by
 have mixed:Tryz.prog.follows .mixedOrders=true:=by kernel_rfl
 go_enter Tryz.func209,Tryz.ntmps209
 go_wp2
 go_loopg [2,3] d.size (fun k s2 s3 wr=>∃ (i jn:Nat) (jz:Int) (dk:Array Int) (n:Nat),s2=.int .i64 i∧s3=.int .i64 jz∧((i:Int)<jz→jz=jn∧jn<d.size)∧(¬ (i:Int)<jz→¬ i<jn)∧jn - i≤k ∧
  dk.size=d.size∧wr=putRow enc8 (Sort.ahead w n) blk off dk∧reverseLoop i jn dk=reverseLoop 0 (d.size - 1) d)
 case atStart=>exact⟨0,d.size - 1,(d.size:Int) - 1,d,0,rfl,rfl,fun h=>⟨by omega,by omega⟩,fun h=>by omega,by omega,rfl,(putRow_self enc8 w blk off d hH).symm,rfl⟩
 case round =>
  obtain⟨i,jn,jz,dk,n,rfl,rfl,h1,h2,hk,hds,hwr,heq⟩:=hrel
  by_cases hlt:(i:Int)<jz
  ·obtain⟨rfl,hjn⟩:=h1 hlt
   have hij:i<jn:=by omega
   have hid:i<d.size:=by omega
   have hHk:Holds enc8 wr blk off dk:=by rw [hwr];exact holds_putRow enc8 _ blk off d dk (holds_ahead enc8 w n blk off d hH) hds
   obtain⟨ci,fi⟩:=hHk i (by omega)
   obtain⟨cj,fj⟩:=hHk jn (by omega)
   have A:Aside (wr=putRow enc8 (Sort.ahead w n) blk off dk):=hwr
   clear hwr hHk hH h1 h2
   go_wp2_with fail
   go_region_o
   go_wp2
   go_roundg (jn - 1 - (i+1))
   case measure=>omega
   case rel =>
    rw [reverseLoop,if_pos hij] at heq
    exact⟨i+1,jn - 1,(jn:Int) - 1,swp dk i jn,n+1,by simp,rfl,fun h=>⟨by omega,by omega⟩,fun h=>by omega,Nat.le_refl _,by rw [size_swp];exact hds,
     swap_world enc8 (by omega) (by omega) A.out (by first|rfl|simp [enc8,getElem!_pos,show jn<dk.size by omega]) (by first|rfl|simp [enc8,getElem!_pos,show i<dk.size by omega]),heq⟩
  ·have hnot:=h2 hlt
   go_wp2
   go_end0
   refine⟨rfl,n,?_⟩
   rw [reverseLoop,if_neg hnot] at heq
   rw [← Lib.reverseLoop_reverse,← heq]
end Go.Proofs.YtndhahednhnnbaaGreatDoor
namespace Go.Proofs.YtndhahednhnnbaaGreatDoor
open Go Go.RowKit
set_option maxHeartbeats 2000000
theorem zgb {l:Nat}(hl:l<6) (w:World):Calls Tryz.prog 208 #[.int .i64 (l:Nat)] w fun e w'=>e=.returned (.int .u8 ((97+l:Nat):Nat))∧w=w':=by
 go_enter Tryz.func208,Tryz.ntmps208
 go_wp2
 go_ret
 exact⟨by rw [show (((97+l:Nat):Nat):Int)=97+(l:Int) by omega];rfl,rfl⟩
theorem rev_none (w:World):Calls Tryz.prog 209 #[.slice none 0 0] w fun e w'=>e=.returned (.tuple #[])∧w'=w:=by
 go_enter Tryz.func209,Tryz.ntmps209
 go_wp2
 go_loopg [2,3] 0 (fun k s2 s3 wr=>s2=.int .i64 0∧s3=.int .i64 (-1)∧wr=w)
 case atStart=>exact⟨rfl,rfl,rfl⟩
 case round =>
  obtain⟨rfl,rfl,rfl⟩:=hrel
  go_wp2
  go_end0
  exact⟨rfl,rfl⟩
theorem info_u8:(Tryz.prog.info? 5).map (fun i=>(i.zero,i.size,i.bytes))=some (some (.int .u8 0),1,1):=by kernel_rfl
def lbs (o:List Nat):List Int:=o.map fun l=>((97+l:Nat):Int)
theorem lbs_reverse (o:List Nat):lbs o.reverse=(lbs o).reverse:=by simp [lbs]
def u8s (l:List Int):List Value:=l.map enc8
theorem Holds.own8 {w:World} {base g n cap:Nat} {e:TypeId} {l:List Int}(h:w.ownsRow base e 1 (.slice (some ⟨g,0,none⟩) n cap) n (u8s l)):Sort.Holds enc8 w g 0 l.toArray:=by
 intro j hj
 have hj':j<l.length:=by simpa using hj
 have hn:=h.1
 simp only [u8s,List.length_map] at hn
 refine⟨?_,by rw [Nat.zero_add];exact h.frozenAt j⟩
 rw [Nat.zero_add,h.cellAt j (by omega)]
 simp [u8s,hj']
theorem Ext.putRow {w W:World} {g off n:Nat} {d:Array Int}(h:Ext w W)(hg:w.heap.size≤g):Ext w (Sort.putRow enc8 (Sort.ahead W n) g off d):=by
 refine⟨h.os,h.tape,h.output,?_,fun k hk _=>?_⟩
 ·show w.heap.size≤(W.heap.modify g _).size
  rw [Array.size_modify];exact h.size
 ·show (W.heap.modify g _)[k]?=_
  rw [Array.getElem?_modify,if_neg (by omega)]
  exact h.heap hk
theorem u8_row:Tryz.prog.underlying 22=some (.slice 5):=by kernel_rfl
theorem u8_und:Tryz.prog.underlying 5=some (.int .u8):=by kernel_rfl
theorem zhk:Tryz.prog.underlying 9=some .string:=by kernel_rfl
theorem Ext.put_some {w W w':World} {g off:Nat} {d:Array Int}(h:Ext w W)(hg:w.heap.size≤g)(hw:∃ n,w'=Sort.putRow enc8 (Sort.ahead W n) g off d):Ext w w':=by
 obtain⟨n,rfl⟩:=hw
 exact h.putRow hg
theorem conv_rev {W w':World} {g cap:Nat} {o:List Nat}(h:Sort.Holds enc8 W g 0 (lbs o).toArray)(hw:∃ n,w'=Sort.putRow enc8 (Sort.ahead W n) g 0 (lbs o).toArray.reverse) :
  (convert 22 9 (.slice (some ⟨g,0,none⟩) o.length cap)).run Tryz.prog w'=.ok (.string (strOfNums (lbs o.reverse))) w':=by
 obtain⟨n,rfl⟩:=hw
 have hH:=Sort.holds_putRow enc8 _ g 0 _ (lbs o).toArray.reverse (Sort.holds_ahead enc8 W n g 0 _ h) (by simp)
 refine run_convert_bytes_arg (P:=Tryz.prog) _ 22 5 u8_row u8_und g 0 o.length cap (lbs o.reverse) (by simp [lbs]) (fun i hi=>?_) _ zhk
 rw [(hH i (by simpa [lbs] using hi)).1,lbs_reverse]
 have hi2:i<(lbs o).reverse.length:=by simpa [lbs] using hi
 have hi3:i<(lbs o).toArray.reverse.size:=by simpa [lbs] using hi
 rw [getElem!_pos (lbs o).toArray.reverse i hi3]
 simp [enc8,List.getD,List.getElem?_eq_getElem hi2,-List.getElem?_reverse,-List.getElem_reverse]
set_option maxRecDepth 100000 in
theorem pathWord_any {w:World} {base:Nat} {A:Option Addr} {n c:Nat} {sts:List (Stp × Value)} {ws:List (List Nat)}(h:w.ownsRow base 199 3 (.slice A n c) n (zbC sts))(hn:sts.length=n)(h0:0<n)(hsz:n≤1073741824)
  (hw:∀ (k:Nat) (p:Stp) (v:Value),sts[k]?=some (p,v)→(p.parent = -1∧ws.getD k []=[])∨∃ a:Nat,p.parent=(a:Int)∧a<k∧p.letter<6∧ws.getD k []=ws.getD a []++[p.letter]) :
  Calls Tryz.prog 181 #[.slice A n c] w fun e w'=>e=.returned (.string (strOfNums (lbs (ws.getD (n - 1) []))))∧Ext w w':=by
 have Hw:=hide hw
 have Hn:=hide hn
 obtain⟨g,rfl⟩:∃ g,A=some ⟨g,0,none⟩:=by
  rcases h.2 with ⟨_,hh⟩|⟨g,cap,cur,hv,_⟩
  ·omega
  ·exact⟨g,by injection hv⟩
 have hgl:=(h.lt g rfl).2
 have Hcell:=hide (fun (k:Nat) (p:Stp) (v:Value) (hk:sts[k]?=some (p,v))=>(show w.cell? ⟨g,k*3,none⟩=some (.int .i64 p.parent)∧w.cell? ⟨g,k*3+1,none⟩=some (.int .i64 (p.letter:Nat)) by
  have hkl:=(List.getElem?_eq_some_iff.1 hk).1
  obtain⟨e1,e2,_⟩:=zfT hk
  rw [h.cellAt _ (by omega),h.cellAt _ (by omega)]
  exact⟨e1,e2⟩))
 clear hw hn h
 go_enter Tryz.func181,Tryz.ntmps181
 go_wp2
 go_loopw [3,4] (fun v i wr=>∃ (k:Nat) (o:List Nat),k<n∧i=.int .i64 k∧wr.ownsRow w.heap.size 5 1 v o.length (u8s (lbs o))∧Hid (ws.getD (n - 1) []=ws.getD k []++o.reverse)∧o.length+k<n∧Ext w wr)
  (fun _ i _=>(intOf i).toNat)
 case atStart=>exact⟨n - 1,[],by omega,by first|go_num|(congr 1;omega),World.ownsRow_nil _ _ _ _,by simp [Hid],by simp;omega,Ext.refl _⟩
 case round =>
  obtain⟨k,o,hk,rfl,hown,hword,hol,hext⟩:=hrel
  obtain⟨p,v,hp⟩:∃ p v,sts[k]?=some (p,v):=⟨_,_,List.getElem?_eq_getElem (by have:=Hn.out;omega)⟩
  obtain⟨c0,c1⟩:=Hcell.out k p v hp
  have C0:∀ W,Ext w W→W.cell? ⟨g,k*3,none⟩=some (.int .i64 p.parent):=fun W hW=>hW.cell_some c0
  have C1:∀ W,Ext w W→W.cell? ⟨g,k*3+1,none⟩=some (.int .i64 (p.letter:Nat)):=fun W hW=>hW.cell_some c1
  obtain⟨par,l,ns⟩:=p
  dsimp only at C0 C1
  have hkn:(k:Int)<(n:Int):=by omega
  clear c0 c1
  rcases Hw.out k _ v hp with ⟨hpar,hwk⟩|⟨a,hpar,hak,hl6,hwk⟩
  ·dsimp only at hpar
   subst hpar
   have hwf:=hide (show ws.getD (n - 1) []=o.reverse by rw [hword.out,hwk];rfl)
   clear hword hwk hp
   rcases hown.2 with ⟨rfl,hol0⟩|⟨gg,cap,cur,rfl,hgg,hh,_⟩
   ·have ho:o=[]:=List.eq_nil_of_length_eq_zero hol0
    subst ho
    have hcv:∀ W,(convert 22 9 (.slice none 0 0)).run Tryz.prog W=.ok (.string ByteArray.empty) W:=fun W=>run_convert_bytes_nil (P:=Tryz.prog) W 22 5 u8_row u8_und _ _ _ zhk
    go_wp2_with (go_at_call 209;refine (rev_none _).mono ?_;rintro e w' ⟨rfl,rfl⟩)
    go_ret
    exact⟨by rw [hwf.out];rfl,hext⟩
   ·have key:=rev_bytes gg 0 cap (lbs o).toArray wr (Holds.own8 hown) (by simp [lbs];omega)
    rw [show (lbs o).toArray.size=o.length by simp [lbs]] at key
    have hH:=hide (Holds.own8 hown)
    go_wp2_with (go_at_call 209;refine key.mono ?_;rintro e w' ⟨rfl,hw'⟩;have hcv:=conv_rev (cap:=cap) hH.out hw';have hx:=Ext.put_some hext hgg hw';clear hw')
    go_ret
    exact⟨by rw [hwf.out];rfl,hx⟩
  ·dsimp only at hpar hwk hl6
   subst hpar
   have hwn:=hide (show ws.getD (n - 1) []=ws.getD a []++(o++[l]).reverse by rw [hword.out,hwk];simp)
   clear hword hwk hp
   go_wp2_with (first
    |(go_at_call 208;refine (zgb hl6 _).mono ?_;rintro e w' ⟨rfl,rfl⟩)
    |(at_builtin;refine zN w wr rfl (.tmp 19) (.tmp 26) _ rfl 5 _ 1 1 Tryz.underlying22 info_u8 rfl (by decide) u3 _ _ _ _ rfl rfl hext hown rfl (zgF _) (by unfold maxLen;omega) (by omega) ?_;intro v' w1 hext1 hown1 hg1 hat1))
   go_roundw
   case rel=>exact⟨a,o++[l],by omega,rfl,by simpa [u8s,lbs] using hown1,hwn,by simp;omega,by assumption⟩
   case measure=>simp [intOf];omega
end Go.Proofs.YtndhahednhnnbaaGreatDoor
