/- spec.DrawKee -/
import Derived.Test.YtfcjhpodichpjaaDoorV05
import Derived.Deep.DeepCutAuto
import Derived.Test.YtfcjhpodichpjaaDoorV04
import Derived.Test.YtfcjhpodichpjaaDoorV01
import Derived.Shelf.RegionOpenPlain
import Derived.Deep.LoopGhost
import Derived.Sort.WalkB12
import Derived.Lib.SlicesMore
import Derived.Laws.BytesArg
import Derived.Test.YtfcjhpodichpjaaDoorV03
import Derived.Test.YtfcjhpodichpjaaDoorV02
import Derived.Deep.CutBlock
set_option maxHeartbeats 8000000
set_option maxRecDepth 100000
namespace Go.Proofs.YtfcjhpodichpjaaDoor
open Go Go.RowKit
def RetDK (w:World) (e:Ending) (w':World):Prop:=
 ∃ (s:Sys) (A:Option Addr) (n c:Nat) (p:Aut) (B:Option Addr) (m d:Nat) (B':Option Addr) (m' d' lo hi:Nat),
  e=.returned (.tuple #[.agg #[.int .i64 s.al,.int .i64 s.st,.slice A n c],.agg #[.int .i64 p.al,.slice B m d,.slice B' m' d']])∧zaS w' lo hi B m B' m' p∧Ext w w'
theorem spec_DrawKeepsProperty {A0:Option Addr} {n0 c0:Nat} {w:World}(h:Bytes w A0 n0)(hn:n0≤9223372036854775807)(hc:n0≤c0)(hc2:c0≤9223372036854775807) :
  Calls Tryd.prog 11 #[.slice A0 n0 c0] w (RetDK w):=by
 have hx0:Ext w ((w.alloc (.cells #[.int .i64 0,.int .i64 0,.slice none 0 0] 39)).alloc (.cells #[.int .i64 0,.slice none 0 0,.slice none 0 0] 30)):=((Ext.refl _).alloc _).alloc _
 obtain⟨z1,z2⟩:=zv (Ext.refl ((w.alloc (.cells #[.int .i64 0,.int .i64 0,.slice none 0 0] 39)).alloc (.cells #[.int .i64 0,.slice none 0 0,.slice none 0 0] 30)))
 have hsz:((w.alloc (.cells #[.int .i64 0,.int .i64 0,.slice none 0 0] 39)).alloc (.cells #[.int .i64 0,.slice none 0 0,.slice none 0 0] 30)).heap.size=w.heap.size+2:=by simp
 have hh:=za (h.ext hx0)
 clear h
 go_enter Tryd.func11,Tryd.ntmps11
 go_upto_region 1 with fail
 generalize (w.alloc (.cells #[.int .i64 0,.int .i64 0,.slice none 0 0] 39)).alloc (.cells #[.int .i64 0,.slice none 0 0,.slice none 0 0] 30)=w0 at *
 go_wp2_with fail
 refine (zcJ hh.out hn hc hc2).mono ?_
 rintro e w1 ⟨R,rfl,hR,hr1,hx1⟩
 clear hh hn hc hc2
 replace z1:=z1.ext hx1
 replace z2:=z2.ext hx1
 have hRl:=hr1.lt
 have hx01:=hx0.trans hx1
 go_upto_region 99 with fail
 refine (spec_l8Draw hr1 (by omega)).mono ?_
 rintro e w2 ⟨s,A,n,c,p,B,m,d,B',m',d',rfl,ht⟩
 have hx3:Ext w2 ((w2.alloc (.cells #[.int .i64 s.al,.int .i64 s.st,.slice A n c] 39)).alloc (.cells #[.int .i64 p.al,.slice B m d,.slice B' m' d'] 30)):=((Ext.refl _).alloc _).alloc _
 obtain⟨b1,b2⟩:=zv (Ext.refl ((w2.alloc (.cells #[.int .i64 s.al,.int .i64 s.st,.slice A n c] 39)).alloc (.cells #[.int .i64 p.al,.slice B m d,.slice B' m' d'] 30)))
 have hw2:=ht.dr.size
 have ht2:Duo w1 ((w2.alloc (.cells #[.int .i64 s.al,.int .i64 s.st,.slice A n c] 39)).alloc (.cells #[.int .i64 p.al,.slice B m d,.slice B' m' d'] 30)) R (0+40000) 30000 60 w.heap.size (w.heap.size+1) w2.heap.size (w2.heap.size+1) s A n c p B m d B' m' d':=
  ⟨ht.ext hx3,(z1.dr ht.dr (by omega)).ext hx3,(z2.dr ht.dr (by omega)).ext hx3,b1,b2,by omega,by omega⟩
 clear ht z1 z2 b1 b2 hx3
 go_upto_region 3 with fail
 have hG2:w.heap.size+2≤w2.heap.size:=by omega
 have hRw:w.heap.size+2≤R:=by omega
 generalize hG:w2.heap.size=G at *
 generalize (w2.alloc (.cells #[.int .i64 s.al,.int .i64 s.st,.slice A n c] 39)).alloc (.cells #[.int .i64 p.al,.slice B m d,.slice B' m' d'] 30)=w4 at *
 clear hG w2 hsz hR hx0
 go_wp2_with fail
 refine (zg ht2.at_.rd (by omega)).mono ?_
 rintro e w5 ⟨y,rfl,-,-,hr5,hd5⟩
 have ht1:=ht2.drawn hd5 hr5
 clear ht2 hr5 hd5
 go_upto_if 18 with fail
 go_cut [] (fun wx=>∃ (p:Aut) (B:Option Addr) (m d:Nat) (B':Option Addr) (m' d':Nat),Duo w1 wx R 50000 30000 60 w.heap.size (w.heap.size+1) G (G+1) s A n c p B m d B' m' d')
 case first =>
  by_cases hy:y=0
  ·subst hy
   have hy0:True:=trivial
   have cG:=ht1.bs.cell
   go_wp2_with fail
   refine (zcO ht1.at_.is.at_).mono ?_
   rintro e v1 ⟨b,B1,m1,d1,B1',m1',d1',ok,rfl,ho,hb,hx5⟩
   have hq1:=ht1.at_.rd.lt
   have ht2:=ht1.ext hx5
   clear cG
   have hx6:=(Ext.refl v1).alloc (.cells #[.int .i64 b.al,.slice B1 m1 d1,.slice B1' m1' d1'] 30)
   have b7:=Blk.new v1 30 #[.int .i64 b.al,.slice B1 m1 d1,.slice B1' m1' d1']
   replace ht2:=ht2.ext hx6
   have ho2:=(ho.ext hx6).less (base':=R+1) (by omega)
   clear ht1 ho hx6
   go_upto_region 5 with fail
   generalize v1.alloc (.cells #[.int .i64 b.al,.slice B1 m1 d1,.slice B1' m1' d1'] 30)=v2 at *
   cases ok
   ·go_wp2_with fail
    go_meet
    exact⟨_,_,_,_,_,_,_,ht2.more (by omega) (by omega) (by omega)⟩
   ·have c7:=b7.cell
    go_wp2_with fail
    refine (zel ht2.at_.rd (by omega) ho2 hb.out (by omega)).mono ?_
    rintro e v3 ⟨b3,A3,n3,d3,B3,m3,e3,rfl,ho3,hb3,hr3,hd3⟩
    have hq2:=ht2.at_.rd.lt
    have ht4:=(ht2.drawn hd3 hr3).more (N:=50000) (J:=30000) (H:=60) (by omega) (by omega) (by omega)
    have cG:=ht4.bp.cell
    have fG:=ht4.bp.frozen
    have fin:=ht4.setP (ho3.less (by omega)) (BdL.more hb3.out (by omega))
    go_wp2_with fail
    go_meet
    exact⟨_,_,_,_,_,_,_,fin⟩
  ·have h0:((y:Int)==0)=false:=by simp;omega
   go_wp2_with fail
   go_meet
   exact⟨_,_,_,_,_,_,_,ht1.more (by omega) (by omega) (by omega)⟩
 case rest =>
  clear ht1
  obtain⟨p,B,m,d,B',m',d',ht⟩:=hcut
  obtain⟨wE,hwE⟩:∃ wE,wE=wc:=⟨_,rfl⟩
  subst hwE
  have cS:∀ W,Frm (fun k=>k=w.heap.size) wE W→∀ q,W.cell? ⟨G,q,none⟩=#[Value.int .i64 s.al,.int .i64 s.st,.slice A n c][q]?:=fun W hW=>(ht.bs.frm hW (by omega)).cell
  have cP:∀ W,Frm (fun k=>k=w.heap.size) wE W→∀ q,W.cell? ⟨G+1,q,none⟩=#[Value.int .i64 p.al,.slice B m d,.slice B' m' d'][q]?:=fun W hW=>(ht.bp.frm hW (by omega)).cell
  have hS0:Frm (fun k=>k=w.heap.size) wE wE.drew:=(Ext.refl wE).drew.toFrm
  have ht5:=ht.ext (Ext.refl wE).drew
  go_wp2_with fail
  refine tR (fun X=>Frm (fun k=>k=w.heap.size) wE X) [3] (Ord.of [0,1,2,3]) ?_
  refine tQ ?_
  generalize hwD:wE.drew=wD at *
  clear hwD
  have hip:=ht5.at_.ip
  have hE:=Dr.new hx01 (by omega) ht5.at_.dr
  have zs:=ht5.zs
  have zp:=ht5.zp
  have cs:=zs.cell
  have fs:=zs.frozen
  clear ht5 ht
  refine zc fun K hK=>?_;go_simp
  have q1:=zbD zs rfl (.int .i64 s.al) (.int .i64 s.st) (.slice A n c)
  have e1:=zbE wD w.heap.size (.int .i64 s.al) (.int .i64 s.st) (.slice A n c)
  replace hip:=hip.farT zs e1 (by decide)
  replace hE:=hE.frm e1 (fun k hk e=>by have e':k=w.heap.size:=e;omega)
  replace zp:=zp.frm e1 (by omega)
  have hS8:=hS0.trans e1
  refine hK.out _ _ hS8 ?_
  refine pT ?_
  clear cs fs zs e1
  generalize ((wD.setCell ⟨w.heap.size,0,none⟩ (.int .i64 s.al)).setCell ⟨w.heap.size,1,none⟩ (.int .i64 s.st)).setCell ⟨w.heap.size,2,none⟩ (.slice A n c)=wA at *
  have cp:=zp.cell
  have fp:=zp.frozen
  refine zi fun K hK=>?_
  go_simp
  have q2:=zbD zp rfl (.int .i64 p.al) (.slice B m d) (.slice B' m' d')
  have e2:=zbE wA (w.heap.size+1) (.int .i64 p.al) (.slice B m d) (.slice B' m' d')
  replace hip:=hip.farT zp e2 (by decide)
  replace hE:=hE.frm e2 (fun k hk e=>by have e':k=w.heap.size+1:=e;omega)
  replace q1:=q1.frm e2 (by omega)
  refine hK.out _ _ ?_
  refine zr ?_
  clear cp fp zp e2 hS8 hS0 cS cP
  generalize ((wA.setCell ⟨w.heap.size+1,0,none⟩ (.int .i64 p.al)).setCell ⟨w.heap.size+1,1,none⟩ (.slice B m d)).setCell ⟨w.heap.size+1,2,none⟩ (.slice B' m' d')=wB at *
  have ha':=za hip.reads
  clear hip
  go_wp2_with fail
  have c1:=q1.cell
  have cc2:=q2.cell
  exact bodyPost_ret (v:=.tuple #[.agg #[.int .i64 s.al,.int .i64 s.st,.slice A n c],.agg #[.int .i64 p.al,.slice B m d,.slice B' m' d']]) (by simp [results,Tryd.results11,go_sem,c1,cc2]) rfl ⟨s,A,n,c,p,B,m,d,B',m',d',_,_,rfl,ha'.out,hE⟩
def zV (w:World) (A:Option Addr) (m:Nat) (l:List Nat):Prop:=
 m=l.length∧m≤9223372036854775807∧(0<m→∃ (g o:Nat) (cs:Array Value),A=some ⟨g,o,none⟩∧w.heap[g]?=some (.cells cs 3 (0,0))∧∀ j x,l[j]?=some x→w.cell? ⟨g,o+j,none⟩=some (.int .i64 (x:Nat)))
theorem zV.frm {S:Nat→Prop} {w w':World} {A:Option Addr} {m:Nat} {l:List Nat}(h:zV w A m l)(hb:Frm S w w')(hS:∀ k,S k→∀ cs,w.heap[k]?≠some (.cells cs 3 (0,0))):zV w' A m l:=by
 refine⟨h.1,h.2.1,fun h0=>?_⟩
 obtain⟨g,o,cs,e,hh,hc⟩:=h.2.2 h0
 have hlt:=(Array.getElem?_eq_some_iff.1 hh).1
 have hn:¬ S g:=fun hs=>hS g hs cs hh
 exact⟨g,o,cs,e,(hb.block g hlt hn).trans hh,fun j x hx=>(World.cell?_of_block (w:=w) (hb.block g hlt hn)).trans (hc j x hx)⟩
theorem zV.ext {w w':World} {A:Option Addr} {m:Nat} {l:List Nat}(h:zV w A m l)(hb:Ext w w'):zV w' A m l:=h.frm (S:=fun _=>False) hb (fun _ hk=>hk.elim)
theorem zV.at_ {w:World} {A:Option Addr} {m k:Nat} {l:List Nat}(h:zV w A m l)(hk:k<m):∃ (g o x:Nat),A=some ⟨g,o,none⟩∧Hid (l[k]?=some x)∧w.cell? ⟨g,o+k,none⟩=some (.int .i64 (x:Nat)):=by
 obtain⟨g,o,cs,e,_,hc⟩:=h.2.2 (by omega)
 have hx:l[k]?=some (l[k]'(by have:=h.1;omega)):=List.getElem?_eq_getElem _
 exact⟨g,o,_,e,hx,hc k _ hx⟩
theorem zV.own {w:World} {base n c:Nat} {A:Option Addr} {l:List Nat}(h:w.ownsRow base 3 1 (.slice A n c) n (zF l)):zV w A n l:=by
 have hl:=h.1
 rw [zad] at hl
 refine⟨by omega,(Reads.of_own h).len,fun h0=>?_⟩
 rcases h.2 with ⟨_,h1⟩|⟨g,cap,cur,hv,_,hh,_⟩
 ·omega
 ·have hA:A=some ⟨g,0,none⟩:=by injection hv
  subst hA
  refine⟨g,0,cur,rfl,hh,fun j x hx=>?_⟩
  have hj:=(List.getElem?_eq_some_iff.1 hx).1
  rw [Nat.zero_add,h.cellAt j (by omega)]
  simp [zF,hx]
theorem info_step:(Tryd.prog.info? 171).map (fun i=>(i.zero,i.size,i.bytes))=some (some (.agg #[.int .i64 0,.int .i64 0,.slice none 0 0]),3,40):=by kernel_rfl
def zaD:List (Stp × Value)→List Value
 |[]=>[]
 |(p,v) :: r=>.int .i64 p.parent :: .int .i64 (p.letter:Nat) :: v :: zaD r
theorem zdI (l m:List (Stp × Value)):zaD (l++m)=zaD l++zaD m:=by
 induction l with
 |nil=>rfl
 |cons x r ih=>obtain⟨p,v⟩:=x;simp [zaD,ih]
theorem zds {l:List (Stp × Value)} {k:Nat} {p:Stp} {v:Value}(h:l[k]?=some (p,v)):(zaD l)[k*3]?=some (.int .i64 p.parent)∧(zaD l)[k*3+1]?=some (.int .i64 (p.letter:Nat))∧(zaD l)[k*3+2]?=some v:=by
 induction l generalizing k with
 |nil=>simp at h
 |cons a r ih =>
  cases k with
  |zero=>simp at h;subst h;exact⟨rfl,rfl,rfl⟩
  |succ k =>
   obtain⟨p',v'⟩:=a
   have:=ih (k:=k) (by simpa using h)
   have e1:(k+1)*3=k*3+1+1+1:=by omega
   refine⟨?_,?_,?_⟩<;>rw [e1]<;>simp only [zaD,List.getElem?_cons_succ]
   ·exact this.1
   ·exact this.2.1
   ·exact this.2.2
def Nodes (w:World) (sts:List (Stp × Value)):Prop:=∀ (k:Nat) (p:Stp) (v:Value),sts[k]?=some (p,v)→∃ A c,v=.slice A p.nodes.length c∧zV w A p.nodes.length p.nodes
theorem Nodes.frm {S:Nat→Prop} {w w':World} {sts:List (Stp × Value)}(h:Nodes w sts)(hb:Frm S w w')(hS:∀ k,S k→∀ cs,w.heap[k]?≠some (.cells cs 3 (0,0))):Nodes w' sts:=fun k p v hk=>by
 obtain⟨A,c,e,hx⟩:=h k p v hk
 exact⟨A,c,e,hx.frm hb hS⟩
structure Sea (w0 w:World) (bs bg bt gs N cs:Nat) (fg:Value) (S:List Bool) (vst:Value) (sts:List (Stp × Value)):Prop where
 ext:Ext w0 w
 vs:Blk w bs 23 #[.slice (some ⟨gs,0,none⟩) N cs]
 ds:w.ownsRow w0.heap.size 4 1 (.slice (some ⟨gs,0,none⟩) N cs) N (zL S)
 vg:∃ t,Blk w bg t #[fg]
 vt:Blk w bt 169 #[vst]
 dt:w.ownsRow w0.heap.size 171 3 vst sts.length (zaD sts)
 nd:Nodes w sts
 hs:w0.heap.size≤bs
 hg:w0.heap.size≤bg
 ht:w0.heap.size≤bt
 hgt:bg≠bt
 hgg:bg≠gs
 hgv:∀ b,vst.ownBlock=some b→b≠bg
section
variable {w0 w w':World} {bs bg bt gs N cs:Nat} {fg vst:Value} {S:List Bool} {sts:List (Stp × Value)}
theorem Sea.far {T:Nat→Prop} {H:Nat}(h:Sea w0 w bs bg bt gs N cs fg S vst sts)(hb:Frm T w w')(hT:∀ k,T k→H≤k)(h1:bs<H)(h2:bg<H)(h3:bt<H)(h4:gs<H)(h5:∀ b,vst.ownBlock=some b→b<H)(h0:w0.heap.size≤H)(hn:Nodes w' sts):Sea w0 w' bs bg bt gs N cs fg S vst sts:=by
 obtain⟨t,hvg⟩:=h.vg
 refine⟨h.ext.frm hb (fun k hk hS=>by have:=hT k hS;omega),h.vs.frm hb (fun hS=>by have:=hT _ hS;omega),zj h.ds hb (fun b hv hS=>?_),⟨t,hvg.frm hb (fun hS=>by have:=hT _ hS;omega)⟩,h.vt.frm hb (fun hS=>by have:=hT _ hS;omega),zj h.dt hb (fun b hv hS=>by have:=hT _ hS;have:=h5 b hv;omega),hn,h.hs,h.hg,h.ht,h.hgt,h.hgg,h.hgv⟩
 have hbg:gs=b:=by simpa [Value.ownBlock] using hv
 have:=hT _ hS
 omega
theorem Sea.ext_ (h:Sea w0 w bs bg bt gs N cs fg S vst sts)(hx:Ext w w'):Sea w0 w' bs bg bt gs N cs fg S vst sts:=by
 obtain⟨t,hvg⟩:=h.vg
 exact⟨h.ext.trans hx,h.vs.ext hx,zm h.ds hx,⟨t,hvg.ext hx⟩,h.vt.ext hx,zm h.dt hx,h.nd.frm (S:=fun _=>False) hx (fun _ hk=>hk.elim),h.hs,h.hg,h.ht,h.hgt,h.hgg,h.hgv⟩
theorem Sea.gs_lt (h:Sea w0 w bs bg bt gs N cs fg S vst sts):w0.heap.size≤gs∧gs<w.heap.size:=h.ds.lt gs rfl
theorem Sea.gs_row (h:Sea w0 w bs bg bt gs N cs fg S vst sts):∃ cur,w.heap[gs]?=some (.cells cur 4 (0,0)):=by
 rcases h.ds.2 with ⟨hv,_⟩|⟨g,cap,cur,hv,_,hh,_⟩
 ·injection hv with h1;cases h1
 ·have:gs=g:=by injection hv with h1;injection h1 with h1;injection h1
  subst this
  exact⟨cur,hh⟩
theorem Sea.vst_row (h:Sea w0 w bs bg bt gs N cs fg S vst sts) {b:Nat}(hb:vst.ownBlock=some b):∃ cur,w.heap[b]?=some (.cells cur 171 (0,0)):=by
 rcases h.dt.2 with ⟨rfl,_⟩|⟨g,cap,cur,rfl,_,hh,_⟩
 ·simp [Value.ownBlock] at hb
 ·have hg:g=b:=by simpa [Value.ownBlock] using hb
  subst hg
  exact⟨cur,hh⟩
theorem Sea.mark (h:Sea w0 w bs bg bt gs N cs fg S vst sts) {n:Nat}:Sea w0 (w.setCell ⟨gs,n,none⟩ (.bool true)) bs bg bt gs N cs fg (S.set n true) vst sts:=by
 obtain⟨t,hvg⟩:=h.vg
 obtain⟨cur,hh⟩:=h.gs_row
 have hf:=Frm.setCell w gs n (.bool true)
 have hne:∀ {b:Nat} {t:TypeId} {cs:Array Value},w.heap[b]?=some (.cells cs t (0,0))→t≠4→b≠gs:=by
  rintro b t cs hb ht rfl
  rw [hh] at hb
  injection hb with hb
  injection hb with _ h2
  exact ht h2.symm
 have hset:(zL S).set n (.bool true)=zL (S.set n true):=by simp [zL,List.map_set]
 have hds:=(h.ds.stored n (.bool true)).1
 rw [hset] at hds
 refine⟨h.ext.setCell h.gs_lt.1 _,h.vs.frm hf (hne h.vs (by decide)),hds,⟨t,hvg.frm hf h.hgg⟩,h.vt.frm hf (hne h.vt (by decide)),zj h.dt hf (fun b hv=>?_),h.nd.frm hf (fun k hk cs hc=>?_),h.hs,h.hg,h.ht,h.hgt,h.hgg,h.hgv⟩
 ·obtain⟨cur',hh'⟩:=h.vst_row hv
  exact hne hh' (by decide)
 ·exact hne hc (by decide) hk
theorem Sea.push {g cap l c':Nat} {A':Option Addr} {p:Stp}(h:Sea w0 w bs bg bt gs N cs fg S vst sts) (zep:w'.ownsRow w0.heap.size 171 3 (.slice (some ⟨g,0,none⟩) (sts.length+1) cap) (sts.length+1) (zaD sts++[.int .i64 p.parent,.int .i64 (p.letter:Nat),.slice A' l c']))
  (hg:w.grownBy w' vst.ownBlock) (hat:vst.ownBlock=some g∨g=w.heap.size+1) (hl:l=p.nodes.length) (hA:zV w A' l p.nodes) :
  Hid (w'.cell? ⟨bt,0,none⟩=some vst)∧w'.frozen? ⟨bt,0,none⟩=false∧Sea w0 (w'.setCell ⟨bt,0,none⟩ (.slice (some ⟨g,0,none⟩) (sts.length+1) cap)) bs bg bt gs N cs fg S (.slice (some ⟨g,0,none⟩) (sts.length+1) cap) (sts++[(p,.slice A' l c')]):=by
 obtain⟨t,hvg⟩:=h.vg
 have hf:=Frm.of_grown hg
 have hrow:∀ {b:Nat} {t:TypeId} {cs:Array Value},w.heap[b]?=some (.cells cs t (0,0))→t≠171→¬ (vst.ownBlock=some b):=by
  intro b t cs hb ht hv
  obtain⟨cur,hh⟩:=h.vst_row hv
  rw [hh] at hb
  injection hb with hb
  injection hb with _ h2
  exact ht h2.symm
 obtain⟨cur,hgs⟩:=h.gs_row
 have hvt:Blk w' bt 169 #[vst]:=h.vt.frm hf (hrow h.vt (by decide))
 have hvs:=h.vs.frm hf (hrow h.vs (by decide))
 have hds:=zj h.ds hf (fun b hv=>by
  have hb:gs=b:=by simpa [Value.ownBlock] using hv
  subst hb
  exact hrow hgs (by decide))
 have hvg':=hvg.frm hf (fun hv=>h.hgv _ hv rfl)
 have hnd:=h.nd.frm hf (fun k hk cs hc=>hrow hc (by decide) hk)
 have hA':=hA.frm hf (fun k hk cs hc=>hrow hc (by decide) hk)
 have hgs':w'.heap[gs]?=some (.cells cur 4 (0,0)):=(hf.block gs h.gs_lt.2 (hrow hgs (by decide))).trans hgs
 have hx:Ext w0 w':=h.ext.frm hf (fun k hk hv=>by have:=(h.dt.lt k hv).1;omega)
 have hgbg:g≠bg:=by
  rcases hat with h1|h1
  ·exact h.hgv g h1
  ·have:=hvg.lt;omega
 have hgr:∃ cur,w'.heap[g]?=some (.cells cur 171 (0,0)):=by
  rcases zep.2 with ⟨hv,_⟩|⟨g',cap',cur,hv,_,hh,_⟩
  ·injection hv with h1;cases h1
  ·have:g=g':=by injection hv with h1;injection h1 with h1;injection h1
   subst this
   exact⟨cur,hh⟩
 obtain⟨cur',hgr⟩:=hgr
 have hf2:=Frm.setCell w' bt 0 (.slice (some ⟨g,0,none⟩) (sts.length+1) cap)
 have hne:∀ {b:Nat} {t:TypeId} {cs:Array Value},w'.heap[b]?=some (.cells cs t (0,0))→t≠169→b≠bt:=by
  rintro b t cs hb ht rfl
  unfold Blk at hvt
  rw [hvt] at hb
  injection hb with hb
  injection hb with _ h2
  exact ht h2.symm
 have hdt:=zj zep hf2 (fun b hv=>by
  have hb:g=b:=by simpa [Value.ownBlock] using hv
  subst hb
  exact hne hgr (by decide))
 have hnd2:=hnd.frm hf2 (fun k hk cs hc=>hne hc (by decide) hk)
 have hA2:=hA'.frm hf2 (fun k hk cs hc=>hne hc (by decide) hk)
 refine⟨hvt.cell 0,hvt.frozen 0,hx.setCell h.ht _,hvs.frm hf2 (hne hvs (by decide)),zj hds hf2 (fun b hv=>by
  have hb:gs=b:=by simpa [Value.ownBlock] using hv
  subst hb
  exact hne hgs' (by decide)),⟨t,hvg'.frm hf2 h.hgt⟩,by simpa using hvt.set_ 0 _,?_,?_,h.hs,h.hg,h.ht,h.hgt,h.hgg,fun b hv=>?_⟩
 ·rw [zdI]
  simpa [zaD] using hdt
 ·intro k p' v' hk
  rcases Nat.lt_trichotomy k sts.length with h1|h1|h1
  ·rw [List.getElem?_append_left h1] at hk
   exact hnd2 k p' v' hk
  ·rw [List.getElem?_append_right (by omega),h1,Nat.sub_self] at hk
   have:=Option.some.inj hk
   injection this with e1 e2
   subst e1;subst e2
   subst hl
   exact⟨A',c',rfl,hA2⟩
  ·rw [List.getElem?_eq_none (by simp;omega)] at hk
   cases hk
 ·have hb:g=b:=by simpa [Value.ownBlock] using hv
  subst hb
  exact hgbg
end
def RetVisit (w0 w:World) (bs bg bt gs N cs:Nat) (fg:Value) (S:List Bool) (sts:List (Stp × Value)) (goal:Nat→Bool) (parent:Int) (letter:Nat) (ns:List Nat) (e:Ending) (w':World):Prop:=
 e=.returned (.bool ((vis S ns).2.any goal))∧Ext w0 w'∧w.heap.size≤w'.heap.size ∧
  ∃ (vst:Value) (sts':List (Stp × Value)),Sea w0 w' bs bg bt gs N cs fg (vis S ns).1 vst sts' ∧
   (((vis S ns).2=[]∧sts'=sts)∨((vis S ns).2≠[]∧∃ v,sts'=sts++[(⟨parent,letter,(vis S ns).2⟩,v)]))
theorem vis_take {S:List Bool} {ns:List Nat} {k n:Nat}(h:ns[k]?=some n):vis S (ns.take (k+1))=visN (vis S (ns.take k)) n:=by
 rw [List.take_add_one,h]
 exact vis_snoc _ _ _
theorem Frm.grown_ {T:Nat→Prop} {w W W':World} {row:Option Nat}(h:Frm T w W)(hg:W.grownBy W' row)(hr:∀ k,row=some k→w.heap.size≤k):Frm T w W':=
 ⟨hg.os.trans h.os,hg.tape.trans h.tape,hg.output.trans h.output,Nat.le_trans h.size hg.size,fun k hk hn=>(hg.block k (Nat.lt_of_lt_of_le hk h.size) (fun e=>by have:=hr k e.symm;omega)).trans (h.block k hk hn)⟩
theorem any_snoc {l:List Nat} {n:Nat} {p:Nat→Bool}:(l++[n]).any p=(l.any p || p n):=by simp
theorem zdw {w0 w:World} {bs bg bt gs N cs kg:Nat} {capg:Array Value} {goal:Nat→Bool} {S:List Bool} {vst:Value} {sts:List (Stp × Value)} {A:Option Addr} {m c letter:Nat} {parent:Int} {ns:List Nat}
  (h:Sea w0 w bs bg bt gs N cs (.func (.func kg) #[] capg) S vst sts) (hA:zV w A m ns) (hN:∀ n∈ns,n<N) (hm:m≤1099511627776) (hst:sts.length≤1073741824)
  (hin:∀ args W,(callFunc kg args).run Tryd.prog W=.ok (.enter kg args) W) (hgoal:∀ W,Ext w0 W→∀ n,n<N→Calls Tryd.prog kg (#[.int .i64 (n:Nat)]++capg) W fun e W'=>e=.returned (.bool (goal n))∧Ext W W') :
  Calls Tryd.prog 139 #[.int .i64 parent,.int .i64 letter,.slice A m c,.pointer (some ⟨bs,0,none⟩),.pointer (some ⟨bg,0,none⟩),.pointer (some ⟨bt,0,none⟩)] w (RetVisit w0 w bs bg bt gs N cs (.func (.func kg) #[] capg) S sts goal parent letter ns):=by
 have hSl:=za (show S.length=N by have:=h.ds.1;rw [zcF] at this;omega)
 have hnl:=za hA.1
 have hNs:=za hN
 have Hgoal:=za hgoal
 have h1:=h.vs.lt
 have h2:bg<w.heap.size:=by obtain⟨t,hh⟩:=h.vg;exact hh.lt
 have h3:=h.vt.lt
 have h4:=h.gs_lt
 have h5:=za (fun b (hb:vst.ownBlock=some b)=>(h.dt.lt b hb).2)
 have h0:=h.ext.size
 have HgsI:=za (show ∀ k,k=gs→∀ cs,w.heap[k]?≠some (.cells cs 3 (0,0)) by
  rintro k rfl cs' hc
  obtain⟨cur,hh⟩:=h.gs_row
  rw [hh] at hc
  injection hc with hc
  injection hc with _ h2
  exact absurd h2 (by decide))
 have Hnd:=za h.nd
 clear hN hgoal
 go_enter Tryd.func139,Tryd.ntmps139
 go_wp2_with fail
 go_loopw [10,11,16] (fun v q i wr=>∃ k:Nat,k≤m∧i=.int .i64 k∧q=.bool ((vis S (ns.take k)).2.any goal)∧wr.ownsRow w.heap.size 3 1 v (vis S (ns.take k)).2.length (zF (vis S (ns.take k)).2)∧(vis S (ns.take k)).2.length≤k ∧
   Sea w0 wr bs bg bt gs N cs (.func (.func kg) #[] capg) (vis S (ns.take k)).1 vst sts∧Frm (fun b=>b=gs) w wr) (fun _ _ i _=>m - (intOf i).toNat)
 case atStart=>exact⟨0,Nat.zero_le _,rfl,rfl,World.ownsRow_nil _ _ _ _,Nat.zero_le _,h,Frm.refl _ _⟩
 case round =>
  clear h
  obtain⟨k,hk,rfl,rfl,zep,hfl,h,hfr⟩:=hrel
  have hTl:=za (show (vis S (ns.take k)).1.length=N by have:=h.ds.1;rw [zcF] at this;omega)
  by_cases hlt:k<m
  ·obtain⟨g,o,n,rfl,hx,hc⟩:=(hA.frm hfr HgsI.out).at_ hlt
   have hnN:=hNs.out n (List.mem_of_getElem? hx.out)
   have hv1:=za (vis_take (S:=S) hx.out)
   generalize vis S (ns.take k)=st at *
   obtain⟨T,fr⟩:=st
   simp only at zep hfl h hTl
   obtain⟨tb,htb⟩:∃ tb,Hid (T[n]?=some tb):=⟨_,List.getElem?_eq_getElem (by have:=hTl.out;omega)⟩
   have htd:=za (show T.getD n true=tb by rw [List.getD_eq_getElem?_getD,htb.out];rfl)
   have cS:=h.vs.cell
   have cD:wr.cell? ⟨gs,n,none⟩=some (.bool tb):=by rw [h.ds.cellAt n (by omega)];simp [zL,htb.out]
   have fD:=h.ds.frozenAt n
   cases tb
   ·have hv2:=za (hv1.out.trans (show visN (T,fr) n=(T.set n true,fr++[n]) by unfold visN;rw [if_neg (by rw [htd.out];decide)]))
    have hmk:=h.mark (n:=n)
    have hfm:Frm (fun b=>b=gs) w (wr.setCell ⟨gs,n,none⟩ (.bool true)):=hfr.cell rfl _
    have hgsw:=h4.2
    have hownm:=zj zep (Frm.setCell wr gs n (.bool true)) (fun b hv hS=>by have:=(zep.lt b hv).1;omega)
    have hcf:∃ tg,Blk wr bg tg #[.func (.func kg) #[] capg]:=h.vg
    cases hfb:fr.any goal
    all_goals
     have Hfb:=za hfb
     clear hfb
     go_upto_region 8 with fail
     generalize wr.setCell ⟨gs,n,none⟩ (.bool true)=w2 at *
     go_wp2_with (at_builtin;refine zJ w _ rfl _ _ _ rfl 3 _ 1 8 Tryd.underlying62 zS rfl (by decide) u10 fr.length (zF fr) _ _ rfl rfl hfm.size hownm rfl (by simp [Value.oneCell']) (by unfold maxLen;omega) (by omega) ?_;intro g5 cap5 w3 zev hg3 hat3 hlt3;have hf3:Frm (fun b=>b=gs) w w3:=hfm.grown_ hg3 (fun k hk=>(hownm.lt k hk).1);have hsea3:=hmk.far (Frm.of_grown hg3) (fun k hk=>(hownm.lt k hk).1) h1 h2 h3 h4.2 h5.out h0 (Hnd.out.frm hf3 HgsI.out);obtain⟨tg,hbg3⟩:=hsea3.vg;have cg3:=hbg3.cell)
    ·refine (Hgoal.out w3 hsea3.ext n hnN).mono ?_
     rintro e w4 ⟨rfl,hx4⟩
     go_wp2_with fail
     go_roundw
     case rel=>exact⟨k+1,by omega,by go_num,by rw [hv2.out,any_snoc,Hfb.out];rfl,by rw [hv2.out];simpa [zF] using zm zev hx4,by rw [hv2.out];simp;omega,by rw [hv2.out];exact hsea3.ext_ hx4,hf3.ext hx4⟩
     case measure=>simp [intOf];omega
    ·go_roundw
     case rel=>exact⟨k+1,by omega,by go_num,by rw [hv2.out,any_snoc,Hfb.out];rfl,by rw [hv2.out];simpa [zF] using zev,by rw [hv2.out];simp;omega,by rw [hv2.out];exact hsea3,hf3⟩
     case measure=>simp [intOf];omega
   ·have hv2:=za (hv1.out.trans (show visN (T,fr) n=(T,fr) by unfold visN;rw [if_pos htd.out]))
    go_wp2_with fail
    go_roundw
    case rel=>exact⟨k+1,by omega,by go_num,by rw [hv2.out],by rw [hv2.out];exact zep,by rw [hv2.out];exact Nat.le_succ_of_le hfl,by rw [hv2.out];exact h,hfr⟩
    case measure=>simp [intOf];omega
  ·obtain rfl:k=m:=by omega
   have htk:ns.take k=ns:=List.take_of_length_le (by have:=hnl.out;omega)
   rw [htk] at zep hfl h ⊢
   have hsz:=hfr.size
   clear htk hTl
   obtain⟨A',c',rfl⟩:=zl zep
   have hA':=zV.own zep
   have hres:=za (show ∀ W vst' sts',Sea w0 W bs bg bt gs N cs (.func (.func kg) #[] capg) (vis S ns).1 vst' sts'→w.heap.size≤W.heap.size→(((vis S ns).2=[]∧sts'=sts)∨((vis S ns).2≠[]∧∃ v,sts'=sts++[(⟨parent,letter,(vis S ns).2⟩,v)]))→RetVisit w0 w bs bg bt gs N cs (.func (.func kg) #[] capg) S sts goal parent letter ns (.returned (.bool ((vis S ns).2.any goal))) W from fun W vst' sts' h1 h2 h3=>⟨rfl,h1.ext,h2,vst',sts',h1,h3⟩)
   clear Hgoal hin
   generalize vis S ns=st at *
   obtain⟨T,fr⟩:=st
   simp only at zep hfl h hA' hres ⊢
   generalize fr.any goal=found at *
   cases hfr0:fr with
   |nil =>
    subst hfr0
    go_wp2_with fail
    go_ret
    exact hres.out _ _ _ h hsz (Or.inl (by simp))
   |cons x r =>
    have hfl0:0<fr.length:=by rw [hfr0];simp
    have hfne:=za (show fr≠[] by rw [hfr0];simp)
    rw [← hfr0]
    clear hfr0
    have cT:=h.vt.cell
    go_wp2_with (at_builtin;refine zJ w0 wr rfl _ _ _ rfl 171 _ 3 40 Tryd.underlying169 info_step rfl (by decide) vst sts.length (zaD sts) _ _ rfl rfl h.ext.size h.dt rfl (by simp [Value.oneCell']) (by unfold maxLen;omega) (by omega) ?_;intro g5 cap5 w3 zev hg3 hat3 hlt3;obtain⟨q1,q2,q3⟩:=h.push (p:=⟨parent,letter,fr⟩) zev hg3 hat3 rfl hA';have q1':=q1.out;have hsz3:=hg3.size)
    go_ret
    exact hres.out _ _ _ q3 (by simp;omega) (Or.inr ⟨hfne.out,_,rfl⟩)
end Go.Proofs.YtfcjhpodichpjaaDoor
namespace Go.Proofs.YtfcjhpodichpjaaDoor
open Go Go.RowKit Go.Lib Go.Sort
abbrev zdL (n:Int):Value:=.int .u8 n
set_option maxRecDepth 1000000 in
theorem rev_bytes (blk off cap:Nat) (d:Array Int) (w:World)(hH:Holds zdL w blk off d)(hsz:d.size≤9223372036854775807) :
  Calls Tryd.prog 145 #[.slice (some ⟨blk,off,none⟩) d.size cap] w fun e w'=>e=.returned (.tuple #[])∧∃ n,w'=putRow zdL (Sort.ahead w n) blk off d.reverse:=by
 have mixed:Tryd.prog.follows .mixedOrders=true:=by kernel_rfl
 go_enter Tryd.func145,Tryd.ntmps145
 go_wp2
 go_loopg [2,3] d.size (fun k s2 s3 wr=>∃ (i jn:Nat) (jz:Int) (dk:Array Int) (n:Nat),s2=.int .i64 i∧s3=.int .i64 jz∧((i:Int)<jz→jz=jn∧jn<d.size)∧(¬ (i:Int)<jz→¬ i<jn)∧jn - i≤k ∧
  dk.size=d.size∧wr=putRow zdL (Sort.ahead w n) blk off dk∧reverseLoop i jn dk=reverseLoop 0 (d.size - 1) d)
 case atStart=>exact⟨0,d.size - 1,(d.size:Int) - 1,d,0,rfl,rfl,fun h=>⟨by omega,by omega⟩,fun h=>by omega,by omega,rfl,(putRow_self zdL w blk off d hH).symm,rfl⟩
 case round =>
  obtain⟨i,jn,jz,dk,n,rfl,rfl,h1,h2,hk,hds,hwr,heq⟩:=hrel
  by_cases hlt:(i:Int)<jz
  ·obtain⟨rfl,hjn⟩:=h1 hlt
   have hij:i<jn:=by omega
   have hid:i<d.size:=by omega
   have hHk:Holds zdL wr blk off dk:=by rw [hwr];exact holds_putRow zdL _ blk off d dk (holds_ahead zdL w n blk off d hH) hds
   obtain⟨ci,fi⟩:=hHk i (by omega)
   obtain⟨cj,fj⟩:=hHk jn (by omega)
   have A:Aside (wr=putRow zdL (Sort.ahead w n) blk off dk):=hwr
   clear hwr hHk hH h1 h2
   go_wp2_with fail
   go_region_o
   go_wp2
   go_roundg (jn - 1 - (i+1))
   case measure=>omega
   case rel =>
    rw [reverseLoop,if_pos hij] at heq
    exact⟨i+1,jn - 1,(jn:Int) - 1,swp dk i jn,n+1,by simp,rfl,fun h=>⟨by omega,by omega⟩,fun h=>by omega,Nat.le_refl _,by rw [size_swp];exact hds,
     swap_world zdL (by omega) (by omega) A.out (by first|rfl|simp [zdL,getElem!_pos,show jn<dk.size by omega]) (by first|rfl|simp [zdL,getElem!_pos,show i<dk.size by omega]),heq⟩
  ·have hnot:=h2 hlt
   go_wp2
   go_end0
   refine⟨rfl,n,?_⟩
   rw [reverseLoop,if_neg hnot] at heq
   rw [← Lib.reverseLoop_reverse,← heq]
end Go.Proofs.YtfcjhpodichpjaaDoor
namespace Go.Proofs.YtfcjhpodichpjaaDoor
open Go Go.RowKit
theorem zdD {l:Nat}(hl:l<6) (w:World):Calls Tryd.prog 83 #[.int .i64 (l:Nat)] w fun e w'=>e=.returned (.int .u8 ((97+l:Nat):Nat))∧w=w':=by
 go_enter Tryd.func83,Tryd.ntmps83
 go_wp2
 go_ret
 exact⟨by rw [show (((97+l:Nat):Nat):Int)=97+(l:Int) by omega];rfl,rfl⟩
theorem rev_none (w:World):Calls Tryd.prog 145 #[.slice none 0 0] w fun e w'=>e=.returned (.tuple #[])∧w'=w:=by
 go_enter Tryd.func145,Tryd.ntmps145
 go_wp2
 go_loopg [2,3] 0 (fun k s2 s3 wr=>s2=.int .i64 0∧s3=.int .i64 (-1)∧wr=w)
 case atStart=>exact⟨rfl,rfl,rfl⟩
 case round =>
  obtain⟨rfl,rfl,rfl⟩:=hrel
  go_wp2
  go_end0
  exact⟨rfl,rfl⟩
theorem info_u8:(Tryd.prog.info? 5).map (fun i=>(i.zero,i.size,i.bytes))=some (some (.int .u8 0),1,1):=by kernel_rfl
def lbs (o:List Nat):List Int:=o.map fun l=>((97+l:Nat):Int)
theorem lbs_reverse (o:List Nat):lbs o.reverse=(lbs o).reverse:=by simp [lbs]
def u8s (l:List Int):List Value:=l.map zdL
theorem Holds.own8 {w:World} {base g n cap:Nat} {e:TypeId} {l:List Int}(h:w.ownsRow base e 1 (.slice (some ⟨g,0,none⟩) n cap) n (u8s l)):Sort.Holds zdL w g 0 l.toArray:=by
 intro j hj
 have hj':j<l.length:=by simpa using hj
 have hn:=h.1
 simp only [u8s,List.length_map] at hn
 refine⟨?_,by rw [Nat.zero_add];exact h.frozenAt j⟩
 rw [Nat.zero_add,h.cellAt j (by omega)]
 simp [u8s,hj']
theorem Ext.putRow {w W:World} {g off n:Nat} {d:Array Int}(h:Ext w W)(hg:w.heap.size≤g):Ext w (Sort.putRow zdL (Sort.ahead W n) g off d):=by
 refine⟨h.os,h.tape,h.output,?_,fun k hk _=>?_⟩
 ·show w.heap.size≤(W.heap.modify g _).size
  rw [Array.size_modify];exact h.size
 ·show (W.heap.modify g _)[k]?=_
  rw [Array.getElem?_modify,if_neg (by omega)]
  exact h.heap hk
theorem u8_row:Tryd.prog.underlying 36=some (.slice 5):=by kernel_rfl
theorem u8_und:Tryd.prog.underlying 5=some (.int .u8):=by kernel_rfl
theorem str_und:Tryd.prog.underlying 9=some .string:=by kernel_rfl
theorem Ext.put_some {w W w':World} {g off:Nat} {d:Array Int}(h:Ext w W)(hg:w.heap.size≤g)(hw:∃ n,w'=Sort.putRow zdL (Sort.ahead W n) g off d):Ext w w':=by
 obtain⟨n,rfl⟩:=hw
 exact h.putRow hg
theorem conv_rev {W w':World} {g cap:Nat} {o:List Nat}(h:Sort.Holds zdL W g 0 (lbs o).toArray)(hw:∃ n,w'=Sort.putRow zdL (Sort.ahead W n) g 0 (lbs o).toArray.reverse) :
  (convert 36 9 (.slice (some ⟨g,0,none⟩) o.length cap)).run Tryd.prog w'=.ok (.string (strOfNums (lbs o.reverse))) w':=by
 obtain⟨n,rfl⟩:=hw
 have hH:=Sort.holds_putRow zdL _ g 0 _ (lbs o).toArray.reverse (Sort.holds_ahead zdL W n g 0 _ h) (by simp)
 refine run_convert_bytes_arg (P:=Tryd.prog) _ 36 5 u8_row u8_und g 0 o.length cap (lbs o.reverse) (by simp [lbs]) (fun i hi=>?_) _ str_und
 rw [(hH i (by simpa [lbs] using hi)).1,lbs_reverse]
 have hi2:i<(lbs o).reverse.length:=by simpa [lbs] using hi
 have hi3:i<(lbs o).toArray.reverse.size:=by simpa [lbs] using hi
 rw [getElem!_pos (lbs o).toArray.reverse i hi3]
 simp [zdL,List.getD,List.getElem?_eq_getElem hi2,-List.getElem?_reverse,-List.getElem_reverse]
theorem pathWord_any {w:World} {base:Nat} {A:Option Addr} {n c:Nat} {sts:List (Stp × Value)} {ws:List (List Nat)}(h:w.ownsRow base 171 3 (.slice A n c) n (zaD sts))(hn:sts.length=n)(h0:0<n)(hsz:n≤1073741824)
  (hw:∀ (k:Nat) (p:Stp) (v:Value),sts[k]?=some (p,v)→(p.parent = -1∧ws.getD k []=[])∨∃ a:Nat,p.parent=(a:Int)∧a<k∧p.letter<6∧ws.getD k []=ws.getD a []++[p.letter]) :
  Calls Tryd.prog 140 #[.slice A n c] w fun e w'=>e=.returned (.string (strOfNums (lbs (ws.getD (n - 1) []))))∧Ext w w':=by
 have Hw:=za hw
 have Hn:=za hn
 obtain⟨g,rfl⟩:∃ g,A=some ⟨g,0,none⟩:=by
  rcases h.2 with ⟨_,hh⟩|⟨g,cap,cur,hv,_⟩
  ·omega
  ·exact⟨g,by injection hv⟩
 have hgl:=(h.lt g rfl).2
 have Hcell:=za (fun (k:Nat) (p:Stp) (v:Value) (hk:sts[k]?=some (p,v))=>(show w.cell? ⟨g,k*3,none⟩=some (.int .i64 p.parent)∧w.cell? ⟨g,k*3+1,none⟩=some (.int .i64 (p.letter:Nat)) by
  have hkl:=(List.getElem?_eq_some_iff.1 hk).1
  obtain⟨e1,e2,_⟩:=zds hk
  rw [h.cellAt _ (by omega),h.cellAt _ (by omega)]
  exact⟨e1,e2⟩))
 clear hw hn h
 go_enter Tryd.func140,Tryd.ntmps140
 go_wp2
 go_loopw [3,4] (fun v i wr=>∃ (k:Nat) (o:List Nat),k<n∧i=.int .i64 k∧wr.ownsRow w.heap.size 5 1 v o.length (u8s (lbs o))∧Hid (ws.getD (n - 1) []=ws.getD k []++o.reverse)∧o.length+k<n∧Ext w wr)
  (fun _ i _=>(intOf i).toNat)
 case atStart=>exact⟨n - 1,[],by omega,by first|go_num|(congr 1;omega),World.ownsRow_nil _ _ _ _,by simp [Hid],by simp;omega,Ext.refl _⟩
 case round =>
  obtain⟨k,o,hk,rfl,zep,hword,hol,zer⟩:=hrel
  obtain⟨p,v,hp⟩:∃ p v,sts[k]?=some (p,v):=⟨_,_,List.getElem?_eq_getElem (by have:=Hn.out;omega)⟩
  obtain⟨c0,c1⟩:=Hcell.out k p v hp
  have C0:∀ W,Ext w W→W.cell? ⟨g,k*3,none⟩=some (.int .i64 p.parent):=fun W hW=>hW.cell_some c0
  have C1:∀ W,Ext w W→W.cell? ⟨g,k*3+1,none⟩=some (.int .i64 (p.letter:Nat)):=fun W hW=>hW.cell_some c1
  obtain⟨par,l,ns⟩:=p
  dsimp only at C0 C1
  have hkn:(k:Int)<(n:Int):=by omega
  clear c0 c1
  rcases Hw.out k _ v hp with ⟨hpar,hwk⟩|⟨a,hpar,hak,hl6,hwk⟩
  ·dsimp only at hpar
   subst hpar
   have hwf:=za (show ws.getD (n - 1) []=o.reverse by rw [hword.out,hwk];rfl)
   clear hword hwk hp
   rcases zep.2 with ⟨rfl,hol0⟩|⟨gg,cap,cur,rfl,hgg,hh,_⟩
   ·have ho:o=[]:=List.eq_nil_of_length_eq_zero hol0
    subst ho
    have hcv:∀ W,(convert 36 9 (.slice none 0 0)).run Tryd.prog W=.ok (.string ByteArray.empty) W:=fun W=>run_convert_bytes_nil (P:=Tryd.prog) W 36 5 u8_row u8_und _ _ _ str_und
    go_wp2_with (go_at_call 145;refine (rev_none _).mono ?_;rintro e w' ⟨rfl,rfl⟩)
    go_ret
    exact⟨by rw [hwf.out];rfl,zer⟩
   ·have key:=rev_bytes gg 0 cap (lbs o).toArray wr (Holds.own8 zep) (by simp [lbs];omega)
    rw [show (lbs o).toArray.size=o.length by simp [lbs]] at key
    have hH:=za (Holds.own8 zep)
    go_wp2_with (go_at_call 145;refine key.mono ?_;rintro e w' ⟨rfl,hw'⟩;have hcv:=conv_rev (cap:=cap) hH.out hw';have hx:=Ext.put_some zer hgg hw';clear hw')
    go_ret
    exact⟨by rw [hwf.out];rfl,hx⟩
  ·dsimp only at hpar hwk hl6
   subst hpar
   have hwn:=za (show ws.getD (n - 1) []=ws.getD a []++(o++[l]).reverse by rw [hword.out,hwk];simp)
   clear hword hwk hp
   go_wp2_with (first
    |(go_at_call 83;refine (zdD hl6 _).mono ?_;rintro e w' ⟨rfl,rfl⟩)
    |(at_builtin;refine zI w wr rfl (.tmp 19) (.tmp 26) _ rfl 5 _ 1 1 Tryd.underlying36 info_u8 rfl (by decide) u3 _ _ _ _ rfl rfl zer zep rfl (cells_u8 _) (by unfold maxLen;omega) (by omega) ?_;intro v' w1 hext1 zet hg1 hat1))
   go_roundw
   case rel=>exact⟨a,o++[l],by omega,rfl,by simpa [u8s,lbs] using zet,hwn,by simp;omega,by assumption⟩
   case measure=>simp [intOf];omega
def zY (w:World) (d:Nat→Nat→List Nat) (start:List Nat) (goal:Nat→Bool) (L:List Nat) (e:Ending) (w':World):Prop:=
 Ext w w'∧((∃ v,e=.returned (.tuple #[.string (strOfNums (lbs v)),.bool true])∧Found d start goal L v)∨(e=.returned (.tuple #[.string ByteArray.empty,.bool false])∧Lost d start goal L))
theorem Sea.start {w w1:World} {N:Nat} {fg:Value} {t:TypeId}(hx:Ext (w.alloc (.cells #[fg] t)) w1)(hsz:(w.alloc (.cells #[fg] t)).heap.size<w1.heap.size)(hg:Blk (w.alloc (.cells #[fg] t)) w.heap.size t #[fg]) (zep:w1.ownsRow w.heap.size 4 1 (.slice (some ⟨w.heap.size+1,0,none⟩) N N) N (zL (List.replicate N false))) :
  Sea w ((w1.alloc (.cells #[.slice (some ⟨w.heap.size+1,0,none⟩) N N] 23)).alloc (.cells #[.slice none 0 0] 169)) w1.heap.size w.heap.size (w1.heap.size+1) (w.heap.size+1) N N fg (List.replicate N false) (.slice none 0 0) []:=by
 simp only [World.size_alloc] at hsz
 have h0:Ext w w1:=((Ext.refl w).alloc _).trans hx
 have hv:=Blk.new w1 23 #[.slice (some ⟨w.heap.size+1,0,none⟩) N N]
 have ht:=Blk.new (w1.alloc (.cells #[.slice (some ⟨w.heap.size+1,0,none⟩) N N] 23)) 169 #[.slice none 0 0]
 have hx2:Ext w1 ((w1.alloc (.cells #[.slice (some ⟨w.heap.size+1,0,none⟩) N N] 23)).alloc (.cells #[.slice none 0 0] 169)):=((Ext.refl w1).alloc _).alloc _
 refine⟨h0.trans hx2,hv.ext ((Ext.refl _).alloc _),zm zep hx2,⟨t,hg.ext (hx.trans hx2)⟩,by simpa using ht,World.ownsRow_nil _ _ _ _,fun k p v hk=>by simp at hk,by omega,Nat.le_refl _,by omega,by omega,by omega,fun b hb=>by simp [Value.ownBlock] at hb⟩
theorem sts_add {sts sts':List (Stp × Value)} {a:Int} {l:Nat} {fr:List Nat}(h:(fr=[]∧sts'=sts)∨(fr≠[]∧∃ v,sts'=sts++[(⟨a,l,fr⟩,v)])):sts'.map Prod.fst=addS (sts.map Prod.fst) a l fr:=by
 rcases h with ⟨h1,rfl⟩|⟨h1,v,rfl⟩
 ·rw [addS,if_pos h1]
 ·rw [addS,if_neg h1];simp
theorem Bfs.letters {d:Nat→Nat→List Nat} {start:List Nat} {goal:Nat→Bool} {L:List Nat} {N:Nat} {S:List Bool} {st:List Stp} {ws:List (List Nat)} {i j:Nat}(h:Bfs d start goal L N S st ws i j):∀ (m k:Nat),k≤m→k<st.length→∀ l∈ws.getD k [],l∈L:=by
 intro m
 induction m with
 |zero =>
  intro k hk hlt l hl
  obtain rfl:k=0:=by omega
  rw [h.zero _ (List.getElem?_eq_getElem hlt)] at hl
  cases hl
 |succ m ih =>
  intro k hk hlt l hl
  rcases h.word k _ (List.getElem?_eq_getElem hlt) with ⟨_,_,e⟩|⟨a,b,_,hak,_,hb,e⟩
  ·rw [e] at hl;cases hl
  ·rw [e] at hl
   rcases List.mem_append.1 hl with h1|h1
   ·exact ih a (by omega) (by omega) l h1
   ·rw [List.mem_singleton.1 h1];exact List.mem_of_getElem? hb
theorem Bfs.words {d:Nat→Nat→List Nat} {start:List Nat} {goal:Nat→Bool} {L:List Nat} {N:Nat} {S:List Bool} {st:List Stp} {ws:List (List Nat)} {i j:Nat}(h:Bfs d start goal L N S st ws i j)(hL:Rise L) {a l:Nat} {fr:List Nat}(ha:a<st.length)(hl:l∈L) (k:Nat) (p:Stp)(hp:(st++[⟨a,l,fr⟩])[k]?=some p) :
  (p.parent = -1∧(ws++[ws.getD a []++[l]]).getD k []=[])∨∃ b:Nat,p.parent=(b:Int)∧b<k∧p.letter<6∧(ws++[ws.getD a []++[l]]).getD k []=(ws++[ws.getD a []++[l]]).getD b []++[p.letter]:=by
 rcases Nat.lt_trichotomy k st.length with h1|h1|h1
 ·rw [List.getElem?_append_left h1] at hp
  rw [zcf _ (by rw [h.wl];exact h1)]
  rcases h.word k p hp with ⟨_,h2,h3⟩|⟨b,c,h2,h3,_,h4,h5⟩
  ·exact Or.inl ⟨h2,h3⟩
  ·exact Or.inr ⟨b,h2,h3,hL.1 _ (List.mem_of_getElem? h4),by rw [zcf _ (by rw [h.wl];omega)];exact h5⟩
 ·rw [h1,List.getElem?_append_right (Nat.le_refl _),Nat.sub_self] at hp
  obtain rfl:=Option.some.inj hp
  refine Or.inr ⟨a,rfl,by omega,hL.1 _ hl,?_⟩
  rw [h1,← h.wl,zdc,zcf _ (by rw [h.wl];exact ha)]
 ·rw [List.getElem?_eq_none (by simp;omega)] at hp
  cases hp
theorem Frm.out {T S:Nat→Prop} {a b c:World}(h:Frm T a b) (k:Frm S b c)(hS:∀ x,S x→T x):Frm T a c:=h.trans (k.mono fun x _ hx=>hS x hx)
set_option maxHeartbeats 16000000 in
theorem zdZ {w:World} {N kn kg m c q cL:Nat} {A AL:Option Addr} {capn capg:Array Value} {goal:Nat→Bool} {d:Nat→Nat→List Nat} {start L:List Nat} {D:Nat}
  (hA:zV w A m start) (hstart:∀ n∈start,n<N) (hm:m≤1099511627776) (hL:zV w AL q L) (hrise:Rise L) (hN:N≤16777216) (hD:D≤4096)
  (hinn:∀ args W,(callFunc kn args).run Tryd.prog W=.ok (.enter kn args) W) (hin:∀ args W,(callFunc kg args).run Tryd.prog W=.ok (.enter kg args) W)
  (hgoal:∀ W,Ext w W→∀ n,n<N→Calls Tryd.prog kg (#[.int .i64 (n:Nat)]++capg) W fun e W'=>e=.returned (.bool (goal n))∧Ext W W')
  (hd:∀ n l,n<N→l∈L→(d n l).length≤D∧∀ x∈d n l,x<N)
  (hnext:∀ W,Ext w W→∀ n l,n<N→l∈L→∀ (base:Nat) (A:Option Addr) (m c:Nat) (xs:List Nat),w.heap.size≤base→base≤W.heap.size→m≤1099511627776→W.ownsRow base 3 1 (.slice A m c) m (zF xs) →
   Calls Tryd.prog kn (#[.int .i64 (n:Nat),.int .i64 (l:Nat),.slice A m c]++capn) W fun e W'=>∃ A' c',e=.returned (.slice A' (xs++d n l).length c')∧W'.ownsRow base 3 1 (.slice A' (xs++d n l).length c') (xs++d n l).length (zF (xs++d n l))∧Frm (fun k=>(Value.slice A m c).ownBlock=some k) W W') :
  Calls Tryd.prog 129 #[.int .i64 (N:Nat),.slice A m c,.slice AL q cL,.func (.func kn) #[] capn,.func (.func kg) #[] capg] w (zY w d start goal L):=by
 have HA:=za hA
 have Hstart:=za hstart
 have Hgoal:=za hgoal
 have Hnext:=za hnext
 have Hd:=za hd
 have hqm:q≤9223372036854775807:=hL.2.1
 clear hA hstart hgoal hnext hd
 go_enter Tryd.func129,Tryd.ntmps129
 have hwa:Ext w (w.alloc (.cells #[.func (.func kg) #[] capg] 96)):=(Ext.refl w).alloc _
 have hgx:=za (Blk.new w 96 #[.func (.func kg) #[] capg])
 go_upto_region 4 with (at_make;refine zbW w _ rfl _ _ 23 rfl 4 _ 1 1 Tryd.underlying23 zal _ _ N rfl rfl hwa (by omega) (by unfold maxLen;omega) ?_;intro w1 hext1 zet hx1 hsz1)
 have zeu:w1.ownsRow w.heap.size 4 1 (.slice (some ⟨w.heap.size+1,0,none⟩) N N) N (zL (List.replicate N false)):=by
  have h:=zet
  rw [World.size_alloc] at h
  simpa [zL,Value.cells,toList_madeCells_one] using h
 have hsea:=Sea.start hx1 hsz1 hgx.out zeu
 have hx2:Ext w ((w1.alloc (.cells #[.slice (some ⟨w.heap.size+1,0,none⟩) N N] 23)).alloc (.cells #[.slice none 0 0] 169)):=(hext1.alloc _).alloc _
 clear zet zeu hx1 hsz1 hgx hext1 hwa
 generalize w1.heap.size+1=bt at *
 generalize w1.heap.size=bs at *
 generalize (w1.alloc (.cells #[.slice (some ⟨w.heap.size+1,0,none⟩) N N] 23)).alloc (.cells #[.slice none 0 0] 169)=w2 at *
 have hvs:=zcY (List.replicate N false) start (fun n hn=>by have:=Hstart.out n hn;simpa using this)
 cases hg:(vis (List.replicate N false) start).2.any goal
 ·have Hg:=za hg
  have hB:=za (Bfs.begin_ (d:=d) (L:=L) (goal:=goal) Hstart.out (fun x hx=>by
   cases hgx:goal x
   ·rfl
   ·rw [List.any_eq_true.2 ⟨x,hx,hgx⟩] at hg;cases hg))
  have hC:=za ((Cnt.nil N).add (-1) 0 start)
  clear hg hvs
  go_wp2_with (go_at_call 139;refine (zdw (letter:=0) (parent := -1) hsea (HA.out.ext hx2) Hstart.out hm (by simp) hin Hgoal.out).mono ?_;rintro e w3 ⟨rfl,hx3,hsz3,vst,sts,hsea3,hcase⟩;rw [Hg.out];have hst:=za (sts_add hcase);clear hcase)
  go_loopw [15,17,18,20] (fun i l r x wr=>∃ (k:Nat) (S:List Bool) (vst:Value) (sts:List (Stp × Value)) (ws:List (List Nat)),i=.int .i64 k∧k≤sts.length∧sts.length≤N∧Sea w wr bs w.heap.size bt (w.heap.size+1) N N (.func (.func kg) #[] capg) S vst sts∧Hid (Bfs d start goal L N S (sts.map Prod.fst) ws k 0)∧Hid (Cnt S (sts.map Prod.fst)))
   (fun i _ _ _ _=>N+1 - (intOf i).toNat)
  case atStart =>
   simp only [List.map_nil] at hst
   have hB':=hB.out
   have hC':=hC.out
   rw [← hst.out] at hB' hC'
   exact⟨0,_,vst,sts,_,rfl,Nat.zero_le _,by have:=hC'.steps hB'.some_;rw [hB'.len] at this;simpa using this,hsea3,za hB',za hC'⟩
  case round =>
   clear hsea3 hst hB hC hx3 hsz3
   clear vst sts
   obtain⟨k,S,vst,sts,ws,rfl,hk,hsN,hS,hB,hC⟩:=hrel
   obtain⟨Av,cv,rfl⟩:=zl hS.dt
   have cT:=hS.vt.cell 0
   by_cases hlt:k<sts.length
   ·have hcast:((k:Int)<(sts.length:Int)):=by omega
    go_wp2
    go_loopw [17,18,20,35] (fun _ _ _ i2 wi=>∃ (j:Nat) (S:List Bool) (vst:Value) (sts:List (Stp × Value)) (ws:List (List Nat)),i2=.int .i64 j∧j≤q∧k<sts.length∧sts.length≤N∧Sea w wi bs w.heap.size bt (w.heap.size+1) N N (.func (.func kg) #[] capg) S vst sts∧Hid (Bfs d start goal L N S (sts.map Prod.fst) ws k j)∧Hid (Cnt S (sts.map Prod.fst)))
     (fun _ _ _ i2 _=>q - (intOf i2).toNat)
    case atStart=>exact⟨0,S,_,sts,ws,rfl,Nat.zero_le _,hlt,hsN,hS,hB,hC⟩
    case round =>
     clear hS hB hC cT hlt hcast hk hsN
     rename World=>wi
     obtain⟨j,S,vst,sts,ws,rfl,hj,hk,hsN,hS,hB,hC⟩:=hrel
     by_cases hjq:j<q
     ·obtain⟨gl,ol,l,rfl,hxl,hcl⟩:=hL.at_ hjq
      have cL:wi.cell? ⟨gl,ol+j,none⟩=some (.int .i64 (l:Nat)):=hS.ext.cell_some hcl
      have hlL:=za (List.mem_of_getElem? hxl.out)
      obtain⟨⟨⟨pp,pl,pn⟩,vk⟩,hpk⟩:∃ x,Hid (sts[k]?=some x):=⟨_,List.getElem?_eq_getElem hk⟩
      obtain⟨Ak,ck,rfl,hnk⟩:=hS.nd k _ vk hpk.out
      dsimp only at hnk hpk
      have hpm:=za (show (sts.map Prod.fst)[k]?=some ⟨pp,pl,pn⟩ by rw [List.getElem?_map,hpk.out];rfl)
      have hne:=List.length_pos_iff.2 (hB.out.some_ k _ hpm.out)
      have hnN:pn.length≤N:=by have:=hC.out.nodes hpm.out;rw [hB.out.len] at this;exact this
      have hsmall:=za (hB.out.small k _ hpm.out)
      dsimp only at hne hsmall
      have cV:wi.cell? ⟨bt,0,none⟩=some vst:=hS.vt.cell 0
      obtain⟨Av,cv,rfl⟩:=zl hS.dt
      obtain⟨gv,rfl⟩:∃ gv,Av=some ⟨gv,0,none⟩:=by
       rcases hS.dt.2 with ⟨_,hh⟩|⟨g,cap,cur,hv,_⟩
       ·omega
       ·exact⟨g,by injection hv⟩
      obtain⟨mk,hmk⟩:∃ mk,Hid (mk=pn.length):=⟨_,rfl⟩
      have cK:wi.cell? ⟨gv,k*3+2,none⟩=some (.slice Ak mk ck):=by
       rw [hS.dt.cellAt _ (by omega),hmk.out]
       exact (zds hpk.out).2.2
      rw [← hmk.out] at hnk hne hnN
      obtain⟨gk,ok,_,rfl,_,_⟩:=hnk.at_ hne
      have Hnk:=za hnk
      have h1:=hS.vs.lt
      have h2:w.heap.size<wi.heap.size:=by obtain⟨t,hh⟩:=hS.vg;exact hh.lt
      have h3:=hS.vt.lt
      have h4:=hS.gs_lt.2
      have h0:=hS.ext.size
      have HnI:=za (show ∀ b,wi.heap.size≤b→∀ cs,wi.heap[b]?≠some (.cells cs 3 (0,0)) from fun b hb cs hc=>by
       have:=(Array.getElem?_eq_some_iff.1 hc).1
       omega)
      have hvl:=(hS.dt.lt gv rfl).2
      have HSea:=za (fun W (hW:Frm (fun b=>wi.heap.size≤b) wi W)=>hS.far hW (fun _ h=>h) h1 h2 h3 h4 (fun b hb=>by have:gv=b:=(by simpa [Value.ownBlock] using hb);omega) h0 (hS.nd.frm hW HnI.out))
      have hkc:(k:Int)<(sts.length:Int):=by omega
      have hjc:(j:Int)<(q:Int):=by omega
      clear hnk hcl hS h1 h3 h4
      go_wp2_with fail
      go_loopw [18,20,45] (fun v _ i3 wr=>∃ i:Nat,i3=.int .i64 i∧i≤mk∧wr.ownsRow wi.heap.size 3 1 v (reach d l (pn.take i)).length (zF (reach d l (pn.take i)))∧Frm (fun b=>wi.heap.size≤b) wi wr) (fun _ _ i3 _=>mk - (intOf i3).toNat)
      case atStart=>exact⟨0,rfl,Nat.zero_le _,World.ownsRow_nil _ _ _ _,Frm.refl _ _⟩
      case round =>
       obtain⟨i,rfl,hi,zep,hfr⟩:=hrel
       have hSr:=za (HSea.out wr hfr)
       have hsz:=hfr.size
       have hrl:(reach d l (pn.take i)).length≤1099511627776 - 4096:=by
        have e1:=reach_len (d:=d) (l:=l) (D:=D) (ns:=pn.take i) (fun n hn=>(Hd.out n l (hsmall.out n (List.mem_of_mem_take hn)) hlL.out).1)
        have e2:=Nat.mul_le_mul (show (pn.take i).length≤16777216 by rw [List.length_take];omega) hD
        omega
       obtain⟨A0,c0,rfl⟩:=zl zep
       clear cL cV cK
       by_cases hil:i<mk
       ·obtain⟨g',o',n,hA',hn,cN⟩:=(Hnk.out.frm hfr HnI.out).at_ hil
        obtain⟨rfl,rfl⟩:gk=g'∧ok=o':=by injection hA' with e;injection e with e1 e2;exact⟨e1,e2⟩
        have hnlt:=hsmall.out n (List.mem_of_getElem? hn.out)
        have hnx:=za (Hnext.out wr hSr.out.ext n l hnlt hlL.out wi.heap.size A0 _ c0 _ h0 hsz (by omega) zep)
        clear hA'
        go_wp2_with fail
        refine hnx.out.mono ?_
        rintro e w4 ⟨A',c',rfl,hown4,hf4⟩
        have hlow:=za (fun b (hb:(Value.slice A0 (reach d l (pn.take i)).length c0).ownBlock=some b)=>(zep.lt b hb).1)
        go_wp2_with fail
        go_roundw
        case rel=>exact⟨i+1,by go_num,by omega,by rw [reach_take hn.out];rw [List.length_append] at hown4 ⊢;exact hown4,hfr.out hf4 hlow.out⟩
        case measure=>simp [intOf];omega
       ·obtain rfl:i=mk:=by omega
        have htk:pn.take i=pn:=List.take_of_length_le (by have:=hmk.out;omega)
        rw [htk] at zep hrl ⊢
        have hrs:=za (fun x (hx:x∈reach d l pn)=>by
         obtain⟨n,hn,hx⟩:=zdg.1 hx
         exact (Hd.out n l (hsmall.out n hn) hlL.out).2 x hx)
        have hvis:=za (zdw (letter:=l) (parent:=(k:Int)) (c:=c0) hSr.out (zV.own zep) hrs.out (by omega) (by omega) hin Hgoal.out)
        cases hg:(vis S (reach d l pn)).2.any goal
        ·have Hg:=za hg
         have hB':=za (hB.out.step hrise hpm.out hxl.out (fun x=>zdg) hrs.out (fun x hx=>by
          cases hgx:goal x
          ·rfl
          ·rw [List.any_eq_true.2 ⟨x,hx,hgx⟩] at hg;cases hg))
         have hC':=za (hC.out.add (k:Int) l (reach d l pn))
         clear hg
         go_wp2_with fail
         refine hvis.out.mono ?_
         rintro e w4 ⟨rfl,hx4,hsz4,vst4,sts4,hsea4,hcase⟩
         rw [Hg.out]
         have hst:=za (sts_add hcase)
         have hlen:sts.length≤sts4.length:=by
          rcases hcase with ⟨_,rfl⟩|⟨_,v,rfl⟩<;>simp
         rw [← hst.out] at hB' hC'
         go_wp2_with fail
         go_roundw
         case rel=>exact⟨j+1,_,vst4,sts4,_,by go_num,by omega,by omega,(by have:=hC'.out.steps hB'.out.some_;rw [hB'.out.len] at this;simpa using this),hsea4,hB',hC'⟩
         case measure=>simp [intOf];omega
        ·have Hg:=za hg
         obtain⟨x,hx,hgx⟩:=List.any_eq_true.1 hg
         have hxr:=((zcY S (reach d l pn) (fun n hn=>by rw [hB.out.len];exact hrs.out n hn)).2.2 x).1 hx
         obtain⟨n,hn,hxd⟩:=zdg.1 hxr.1
         have hF:=za (show Found d start goal L (ws.getD k []++[l]) from ⟨fun m hm=>(by
          rcases List.mem_append.1 hm with h|h
          ·exact hB.out.letters k k (Nat.le_refl _) (by simpa using hk) m h
          ·rw [List.mem_singleton.1 h];exact hlL.out),⟨x,(hB.out.goes k _ hpm.out n hn).snoc hxd,hgx⟩,fun u hu hlt y hy=>hB.out.found hrise (by simpa using hk) hxl.out hu hlt hy⟩)
         clear hg hgx hxr hxd
         go_wp2_with fail
         refine hvis.out.mono ?_
         rintro e w4 ⟨rfl,hx4,hsz4,vst4,sts4,hsea4,hcase⟩
         rw [Hg.out]
         obtain⟨_,v4,hst4⟩:(vis S (reach d l pn)).2≠[]∧∃ v,sts4=sts++[(⟨(k:Int),l,(vis S (reach d l pn)).2⟩,v)]:=by
          rcases hcase with ⟨h,_⟩|h
          ·rw [h] at hx;cases hx
          ·exact h
         have hl4:sts4.length=sts.length+1:=by rw [hst4];simp
         obtain⟨A4,c4,rfl⟩:=zl hsea4.dt
         have cV4:=hsea4.vt.cell 0
         have hpw:=za (show Calls Tryd.prog 140 #[.slice A4 sts4.length c4] w4 fun e w'=>e=.returned (.string (strOfNums (lbs (ws.getD k []++[l]))))∧Ext w4 w' by
          have key:=pathWord_any (ws:=ws++[ws.getD k []++[l]]) hsea4.dt rfl (by omega) (by omega) (fun i p v hi=>by
           have hm:(sts4.map Prod.fst)[i]?=some p:=by rw [List.getElem?_map,hi];rfl
           rw [hst4,List.map_append] at hm
           exact hB.out.words hrise (by simpa using hk) hlL.out i p hm)
          rw [hl4,Nat.add_sub_cancel,show sts.length=ws.length by have:=hB.out.wl;simpa using this.symm,zdc] at key
          rw [hl4,show sts.length=ws.length by have:=hB.out.wl;simpa using this.symm]
          exact key)
         clear hx hcase hst4 hl4
         go_wp2_with fail
         refine hpw.out.mono ?_
         rintro e w5 ⟨rfl,hx5⟩
         go_wp2_with fail
         go_ret2
         exact⟨hx4.trans hx5,Or.inl ⟨_,rfl,hF.out⟩⟩
     ·obtain rfl:j=q:=by omega
      have hql:=hL.1
      have hB2:=za (hB.out.row (by omega))
      go_wp2
      go_roundw
      case rel=>exact⟨k+1,S,vst,sts,ws,by go_num,by omega,hsN,hS,hB2,hC⟩
      case measure=>simp [intOf];omega
   ·obtain rfl:k=sts.length:=by omega
    have hlost:=za (show Lost d start goal L from fun v hv x hx=>hB.out.none (by simp) hv hx)
    have hxr:=hS.ext
    go_wp2
    go_ret2
    exact⟨hxr,Or.inr ⟨rfl,hlost.out⟩⟩
 ·have Hg:=za hg
  obtain⟨x,hx,hgx⟩:=List.any_eq_true.1 hg
  have hF:=za (show Found d start goal L [] from ⟨fun l hl=>(by cases hl),⟨x,.nil ((hvs.2.2 x).1 hx).1,hgx⟩,fun u _ hu=>by rw [zcs] at hu;omega⟩)
  clear hg hvs
  go_wp2_with (go_at_call 139;refine (zdw (letter:=0) (parent := -1) hsea (HA.out.ext hx2) Hstart.out hm (by simp) hin Hgoal.out).mono ?_;rintro e w' ⟨rfl,hx3,_⟩;rw [Hg.out])
  go_ret2
  exact⟨hx3,Or.inl ⟨[],rfl,hF.out⟩⟩
theorem letters_rise (a:Nat):Rise (letters a 6):=by
 refine⟨fun l hl=>(zO.1 hl).1,fun i j x y hx hy hij=>?_⟩
 have h1:(letters a 6).Pairwise (·<·):=List.Pairwise.filter _ List.pairwise_lt_range
 obtain⟨hi,rfl⟩:=List.getElem?_eq_some_iff.1 hx
 obtain⟨hj,rfl⟩:=List.getElem?_eq_some_iff.1 hy
 exact List.pairwise_iff_getElem.1 h1 i j hi hj hij
theorem Blk.ne {w:World} {a b:Nat} {t u:TypeId} {cs ds:Array Value}(h:Blk w a t cs)(h':Blk w b u ds)(ht:t≠u):a≠b:=by
 rintro rfl
 unfold Blk at h h'
 rw [h] at h'
 injection h' with h'
 injection h' with _ h2
 exact ht h2
theorem zdi {w:World} {g x:Nat}(h:Blk w g 3 #[.int .i64 (x:Nat)]):zV w (some ⟨g,0,none⟩) 1 [x]:=by
 refine⟨rfl,by omega,fun _=>⟨g,0,_,rfl,h,fun j y hj=>?_⟩⟩
 cases j with
 |zero =>
  obtain rfl:=Option.some.inj hj
  rw [h.cell];rfl
 |succ j=>simp at hj
theorem wrapN (n:Nat)(h:n<9223372036854775808):IntKind.i64.wrap (n:Int)=(n:Int):=by rw [IntKind.wrap_i64];omega
def wstr (v:List Nat):ByteArray:=strOfNums (lbs v)
theorem info_row6:(Tryd.prog.info? 128).map (fun i=>(i.zero,i.size,i.bytes))=some (some (.agg (Array.replicate 6 (.int .i64 0))),6,48):=by kernel_rfl
theorem letters_get {a l:Nat}(hb:a.testBit l=true):∀ n,l<n→(letters a n)[place a l]?=some l:=by
 intro n
 induction n with
 |zero=>intro h;omega
 |succ n ih =>
  intro h
  rw [zaA]
  by_cases e:n=l
  ·subst e
   rw [List.getElem?_append_right (by exact Nat.le_refl _)]
   simp [place,hb]
  ·have h1:=ih (by omega)
   rw [List.getElem?_append_left (List.getElem?_eq_some_iff.1 h1).1]
   exact h1
theorem zef {a n k l:Nat}(h:(letters a n)[k]?=some l):place a l=k:=by
 have hm:=zac.1 (List.mem_of_getElem? h)
 have h1:=letters_get hm.2 n hm.1
 have hp:=List.pairwise_iff_getElem.1 (show (letters a n).Pairwise (·<·) from List.Pairwise.filter _ List.pairwise_lt_range)
 obtain⟨h2,h3⟩:=List.getElem?_eq_some_iff.1 h
 obtain⟨h4,h5⟩:=List.getElem?_eq_some_iff.1 h1
 rcases Nat.lt_trichotomy (place a l) k with h6|h6|h6
 ·have:=hp _ _ h4 h2 h6;omega
 ·exact h6
 ·have:=hp _ _ h2 h4 h6;omega
def tbC (n:Nat) (f:Nat→Nat→Nat):List Value:=zF ((List.range (n*6)).map fun i=>f (i / 6) (i % 6))
theorem tbC_set {n q l v:Nat} {f g:Nat→Nat→Nat}(hq:q<n)(hl:l<6)(h:∀ a b,a<n→b<6→g a b=if a=q∧b=l then v else f a b):(tbC n f).set (q*6+l) (.int .i64 (v:Nat))=tbC n g:=by
 unfold tbC zF
 rw [List.map_map,List.map_map]
 refine List.ext_getElem? fun i=>?_
 rw [List.getElem?_set]
 simp only [List.length_map,List.length_range,List.getElem?_map]
 by_cases hi:i<n*6
 ·rw [List.getElem?_range hi]
  simp only [Option.map_some,Function.comp]
  rw [h (i / 6) (i % 6) (by omega) (by omega)]
  by_cases e:q*6+l=i
  ·rw [if_pos e,if_pos (by omega),if_pos ⟨by omega,by omega⟩]
  ·rw [if_neg e,if_neg (by omega)]
 ·rw [List.getElem?_eq_none (l:=List.range (n*6)) (by simp;omega)]
  by_cases e:q*6+l=i
  ·omega
  ·rw [if_neg e];rfl
theorem tbC_get {n q l:Nat} {f:Nat→Nat→Nat}(hq:q<n)(hl:l<6):(tbC n f)[q*6+l]?=some (.int .i64 (f q l:Nat)):=by
 unfold tbC zF
 rw [List.getElem?_map,List.getElem?_map,List.getElem?_range (by omega)]
 simp only [Option.map_some]
 rw [show (q*6+l) / 6=q by omega,show (q*6+l) % 6=l by omega]
theorem tbC_congr {n:Nat} {f g:Nat→Nat→Nat}(h:∀ a b,a<n→b<6→f a b=g a b):tbC n f=tbC n g:=by
 unfold tbC
 congr 1
 refine List.map_congr_left fun i hi=>?_
 rw [List.mem_range] at hi
 exact h _ _ (by omega) (by omega)
theorem tb_made (n:Nat):(madeCells (Value.agg (Array.replicate 6 (.int .i64 0))).cells (n*6)).toList=tbC n (fun _ _=>0):=by
 unfold madeCells tbC zF
 simp only [Value.cells,Array.toList_map,Array.toList_range,List.map_map]
 refine List.map_congr_left fun i _=>?_
 simp only [Function.comp,Array.size_replicate]
 rw [getElem!_pos _ _ (by simp;omega),Array.getElem_replicate]
 rfl
def TbAt (w:World) (lo hi:Nat) (A:Option Addr) (a:Aut):Prop:=Reads w lo hi 6 A a.next.length (tbC a.next.length (aGo a))
theorem TbAt.ext {w w':World} {lo hi:Nat} {A:Option Addr} {a:Aut}(h:TbAt w lo hi A a)(hx:Ext w w'):TbAt w' lo hi A a:=Reads.ext h hx
theorem TbAt.at_ {w:World} {lo hi q l:Nat} {A:Option Addr} {a:Aut}(h:TbAt w lo hi A a)(hq:q<a.next.length)(hl:l<6):∃ g o,A=some ⟨g,o,none⟩∧w.cell? ⟨g,o+q*6+l,none⟩=some (.int .i64 (aGo a q l:Nat)):=by
 obtain⟨ad,e,_,_,hc⟩:=Reads.at_ h hq
 have h0:=hc (0*6+0) _ (tbC_get (by omega) (by omega))
 have hs:=zaZ h0
 have h1:=hc (q*6+l) _ (tbC_get hq hl)
 rw [hs,zP,← Nat.add_assoc] at h1
 exact⟨ad.block,ad.off,by rw [e,← hs],h1⟩
def TbO (w:World) (A:Option Addr) (c:Nat) (a:Aut):Prop:=∃ base,w.ownsRow base 128 6 (.slice A a.next.length c) a.next.length (tbC a.next.length (aGo a))
theorem TbO.at_ {w:World} {c:Nat} {A:Option Addr} {a:Aut}(h:TbO w A c a):∃ lo hi,TbAt w lo hi A a:=by
 obtain⟨base,h⟩:=h
 exact⟨_,_,Reads.of_own h⟩
theorem TbO.ext {w w':World} {c:Nat} {A:Option Addr} {a:Aut}(h:TbO w A c a)(hx:Ext w w'):TbO w' A c a:=by
 obtain⟨base,h⟩:=h
 exact⟨base,zm h hx⟩
theorem TbO.set {w:World} {c g:Nat} {A:Option Addr} {a:Aut} {cs:Array Value} {t:TypeId}(h:TbO w A c a)(hg:Blk w g t cs)(ht:128≠t) (v:Value):TbO (w.setCell ⟨g,0,none⟩ v) A c a:=by
 obtain⟨base,h⟩:=h
 exact⟨base,zj h (Frm.setCell w g 0 v) (fun b hb e=>by
  subst e
  rcases h.2 with ⟨h1,_⟩|⟨g',cap,cur,h1,_,hh,_⟩
  ·rw [h1] at hb;simp [Value.ownBlock] at hb
  ·rw [h1] at hb
   have:g'=b:=by simpa [Value.ownBlock] using hb
   subst this
   unfold Blk at hg
   rw [hh] at hg
   injection hg with hg
   injection hg with _ h2
   exact ht h2)⟩
def RetTb (w:World) (a:Aut) (e:Ending) (w':World):Prop:=∃ A c,e=.returned (.slice A a.next.length c)∧TbO w' A c a∧Ext w w'
def RetTb2 (w:World) (a:Aut) (e:Ending) (w':World):Prop:=∃ A c,e=.returned (.slice A a.next.length c)∧(∃ base,w.heap.size≤base∧w'.ownsRow base 128 6 (.slice A a.next.length c) a.next.length (tbC a.next.length (aGo a)))∧Ext w w'
theorem zec {lo hi N:Nat} {B:Option Addr} {m d:Nat} {B':Option Addr} {m' d':Nat} {a:Aut} {w:World}(h:zaS w lo hi B m B' m' a)(hv:Fit N a)(hN:N≤100) :
  Calls Tryd.prog 125 #[.agg #[.int .i64 a.al,.slice B m d,.slice B' m' d']] w (RetTb2 w a):=by
 obtain⟨⟨al0,al1⟩,⟨n1,n12⟩,_,hrows⟩:=hv.row
 obtain⟨al,hal⟩:∃ al:Nat,Hid (a.al=al):=⟨a.al.toNat,by unfold Hid;omega⟩
 have hsm:Sm al:=by have:=hal.out;unfold Sm;omega
 have Htn:=za (show a.al.toNat=al by have:=hal.out;omega)
 have Hn:=za h.n1
 have HN:=za (fun W (hW:Ext w W)=>h.1.ext hW)
 have Hrow:=za hrows
 have hm12:m≤100:=by rw [h.n1];omega
 have hll:=zn al 6
 clear hrows h n1 n12 hv hN
 rw [hal.out]
 clear al0 al1
 go_enter Tryd.func125,Tryd.ntmps125
 have hw1:Ext w (w.alloc (.cells #[.int .i64 al,.slice B m d,.slice B' m' d'] 30)):=(Ext.refl w).alloc _
 have hb1:=Blk.new w 30 #[.int .i64 al,.slice B m d,.slice B' m' d']
 go_upto_region 1 with fail
 generalize w.alloc (.cells #[.int .i64 al,.slice B m d,.slice B' m' d'] 30)=w1 at *
 have c1:=hb1.cell
 go_upto_region 2 with (at_make;refine zbW w1 w1 rfl _ _ 154 rfl 128 _ 6 48 Tryd.underlying154 info_row6 _ _ m rfl rfl (Ext.refl _) (by omega) (by unfold maxLen;omega) ?_;intro w2 hx12 zeu hx2 hsz2)
 rw [tb_made] at zeu
 have c2:=(hb1.ext hx12).cell
 clear hx2 hsz2
 go_upto_region 3 with (go_at_call 81;refine (zaY al hsm _).mono ?_;rintro e w3 ⟨AL,cL,rfl,hownL,hx3⟩)
 have hx13:=hx12.trans hx3
 have zev:=zm zeu hx3
 have hLL:=Lst.own_nats hownL
 have hsz12:=hx12.size
 have c3:=(hb1.ext hx13).cell
 have hg1:w1.heap.size<w2.heap.size:=by
  have:=(zeu.lt w1.heap.size rfl).2
  exact this
 clear hownL c2 zeu
 generalize hlq:letters al 6=LL at *
 have Hlq:=za hlq
 clear hlq
 go_wp2_with fail
 go_loopw [5,6,7,8,9,20] (fun _ _ _ _ _ i wr=>∃ (q:Nat) (F:Nat→Nat→Nat),i=.int .i64 q∧q≤m∧Hid (∀ x y,x<q→y<6→F x y=aGo a x y)∧wr.ownsRow w1.heap.size 128 6 (.slice (some ⟨w1.heap.size,0,none⟩) m m) m (tbC m F)∧Ext w1 wr∧Lst NatP wr w2.heap.size w3.heap.size AL LL) (fun _ _ _ _ _ i _=>m - (intOf i).toNat)
 case atStart=>exact⟨0,_,rfl,Nat.zero_le _,(show Hid _ from fun x y h=>by omega),zev,hx13,hLL⟩
 case round =>
  clear zev hLL c3
  obtain⟨q,F,rfl,hq,hF,zep,hx,hLL⟩:=hrel
  by_cases hlt:q<m
  ·obtain⟨ad,Ak,ck,row,rfl,_,_,hrow,hcr,hrd⟩:=(HN.out w1 hw1).row hlt
   obtain⟨hr1,hr2⟩:=Hrow.out q row hrow.out
   rw [Htn.out,Hlq.out] at hr1
   have HR2:=za hr2
   have HR1:=za hr1
   have HRr:=za (fun W (hW:Ext w1 W)=>hrd.ext hW)
   have hcr':=hx.cell_some hcr
   clear hrd hr2 hcr hr1
   go_wp2_with fail
   go_loopw [7,25] (fun _ i wr=>∃ (l:Nat) (F:Nat→Nat→Nat),i=.int .i64 l∧l≤6∧Hid ((∀ x y,x<q→y<6→F x y=aGo a x y)∧∀ y,y<l→F q y=q)∧wr.ownsRow w1.heap.size 128 6 (.slice (some ⟨w1.heap.size,0,none⟩) m m) m (tbC m F)∧Ext w1 wr∧Lst NatP wr w2.heap.size w3.heap.size AL LL) (fun _ i _=>6 - (intOf i).toNat)
   case atStart=>exact⟨0,F,rfl,Nat.zero_le _,(show Hid _ from ⟨hF.out,fun y h=>by omega⟩),zep,hx,hLL⟩
   case round =>
    clear zep hx hLL hF hcr'
    obtain⟨l,F,rfl,hl,hF,zep,hx,hLL⟩:=hrel
    by_cases hl6:l<6
    ·obtain⟨o0,g0⟩:=zav zep (q*6+l) (by omega)
     have f0:=zep.frozenAt (q*6+l)
     have hss:=zep.stored (q*6+l) (.int .i64 (q:Nat))
     rw [tbC_set (g:=fun x y=>if x=q∧y=l then q else F x y) hlt hl6 (fun _ _ _ _=>rfl)] at hss
     have hown':=hss.1
     have hx':Ext w1 (wr.setCell ⟨w1.heap.size,q*6+l,none⟩ (.int .i64 (q:Nat))):=hx.setCell (p:=⟨w1.heap.size,q*6+l,none⟩) (Nat.le_refl _) _
     have hLL':Lst NatP (wr.setCell ⟨w1.heap.size,q*6+l,none⟩ (.int .i64 (q:Nat))) w2.heap.size w3.heap.size AL LL:=hLL.frm NatP.ok (Frm.setCell wr w1.heap.size (q*6+l) _) (fun k h1 h2 e=>by omega)
     have hF':=za (show (∀ x y,x<q→y<6→(if x=q∧y=l then q else F x y)=aGo a x y)∧∀ y,y<l+1→(if q=q∧y=l then q else F q y)=q from ⟨fun x y h1 h2=>by rw [if_neg (by omega)];exact hF.out.1 x y h1 h2,fun y h=>by
      by_cases e:y=l
      ·rw [if_pos ⟨rfl,e⟩]
      ·rw [if_neg (by omega)];exact hF.out.2 y (by omega)⟩)
     clear hss zep hLL hx
     go_wp2_with fail
     go_roundw
     case rel=>exact⟨l+1,_,by go_num,by omega,hF',hown',hx',hLL'⟩
     case measure=>simp [intOf];omega
    ·have hl66:=za (show 6≤l by omega)
     go_wp2_with fail
     go_loopw [8,9,37] (fun _ _ i wr=>∃ (k:Nat) (F:Nat→Nat→Nat),i=.int .i64 k∧k≤LL.length∧Hid ((∀ x y,x<q→y<6→F x y=aGo a x y)∧(∀ (j y:Nat),j<k→LL[j]?=some y→F q y=aGo a q y)∧∀ y,y<6→(∀ j,j<k→LL[j]?≠some y)→F q y=q)∧wr.ownsRow w1.heap.size 128 6 (.slice (some ⟨w1.heap.size,0,none⟩) m m) m (tbC m F)∧Ext w1 wr∧Lst NatP wr w2.heap.size w3.heap.size AL LL) (fun _ _ i _=>LL.length - (intOf i).toNat)
     case atStart=>exact⟨0,F,rfl,Nat.zero_le _,(show Hid _ from ⟨hF.out.1,fun j y h=>by omega,fun y h _=>hF.out.2 y (by have:=hl66.out;omega)⟩),zep,hx,hLL⟩
     case round =>
      clear zep hx hLL hF
      obtain⟨k,F,rfl,hk,hF,zep,hx,hLL⟩:=hrel
      by_cases hkl:k<LL.length
      ·obtain⟨bl,ol,l,rfl,_,_,hl,hcl⟩:=hLL.num hkl
       have hl6:l<6:=by
        have:=List.mem_of_getElem? hl.out
        rw [← Hlq.out] at this
        exact (zac.1 this).1
       have hpl:=za (zef (a:=al) (n:=6) (k:=k) (l:=l) (by rw [Hlq.out];exact hl.out))
       have hbit:=za (show al.testBit l=true from by
        have:=List.mem_of_getElem? hl.out
        rw [← Hlq.out] at this
        exact (zac.1 this).2)
       obtain⟨ad',x,rfl,_,_,hxx,hcx⟩:=(HRr.out wr hx).int (show k<row.length by have:=HR1.out;omega)
       obtain⟨x0,x1⟩:=HR2.out x (List.mem_of_getElem? hxx.out)
       obtain⟨v,rfl⟩:∃ v:Nat,x=v:=⟨x.toNat,by omega⟩
       have hv:=za (show aGo a q l=v by
        unfold aGo
        rw [Htn.out,hbit.out,if_pos rfl,hpl.out]
        simp only [List.getD_eq_getElem?_getD,hrow.out,Option.getD_some,hxx.out]
        rfl)
       obtain⟨o0,g0⟩:=zav zep (q*6+l) (by omega)
       have f0:=zep.frozenAt (q*6+l)
       have hwd:=Ext.refl wr
       have CX:∀ W,Ext wr W→W.cell? (ad'.add k)=some (.int .i64 (v:Nat)):=fun W hW=>hW.cell_some hcx
       have hkr:(k:Int)<(row.length:Int):=by have:=HR1.out;omega
       have hql:(q:Int)<(m:Int):=by omega
       have hl6i:(l:Int)<6:=by omega
       clear hcx
       go_upto_region 14 with fail
       refine uR (fun X=>Ext wr X) [9] (zE.of [0,1,2,3,4,5,6,7,8,9]) ?_
       refine uQ ?_
       have g1:wr.drew.cell? ⟨w1.heap.size,q*6+l,none⟩=some o0:=g0
       have f1:wr.drew.frozen? ⟨w1.heap.size,q*6+l,none⟩=false:=f0
       have zet:wr.drew.ownsRow w1.heap.size 128 6 (.slice (some ⟨w1.heap.size,0,none⟩) m m) m (tbC m F):=zm zep hwd.drew
       have hx1:=hx.drew
       have hLL1:=hLL.ext NatP.ok hwd.drew
       clear CX g0 f0 zep hx hLL hwd
       generalize wr.drew=wd at *
       have hss:=zet.stored (q*6+l) (.int .i64 (v:Nat))
       have hx':Ext w1 (wd.setCell ⟨w1.heap.size,q*6+l,none⟩ (.int .i64 (v:Nat))):=hx1.setCell (p:=⟨w1.heap.size,q*6+l,none⟩) (Nat.le_refl _) _
       have hLL':Lst NatP (wd.setCell ⟨w1.heap.size,q*6+l,none⟩ (.int .i64 (v:Nat))) w2.heap.size w3.heap.size (some ⟨bl,ol,none⟩) LL:=hLL1.frm NatP.ok (Frm.setCell wd w1.heap.size (q*6+l) _) (fun k h1 h2 e=>by omega)
       obtain⟨G2,hG2,hF'⟩:∃ G2:Nat→Nat→Nat,(tbC m F).set (q*6+l) (.int .i64 (v:Nat))=tbC m G2∧Hid ((∀ x y,x<q→y<6→G2 x y=aGo a x y)∧(∀ (j y:Nat),j<k+1→LL[j]?=some y→G2 q y=aGo a q y)∧∀ y,y<6→(∀ j,j<k+1→LL[j]?≠some y)→G2 q y=q):=by
        refine⟨fun x y=>if x=q∧y=l then v else F x y,tbC_set hlt hl6 (fun _ _ _ _=>rfl),⟨fun x y h1 h2=>?_,fun j y hj hy=>?_,fun y h6 hy=>?_⟩⟩
        ·show (if x=q∧y=l then v else F x y)=_
         rw [if_neg (by omega)];exact hF.out.1 x y h1 h2
        ·show (if q=q∧y=l then v else F q y)=_
         by_cases e:y=l
         ·rw [if_pos ⟨rfl,e⟩,e,hv.out]
         ·rw [if_neg (fun h=>e h.2)]
          by_cases e2:j=k
          ·subst e2
           have:=hl.out
           rw [hy] at this
           exact absurd (Option.some.inj this) e
          ·exact hF.out.2.1 j y (by omega) hy
        ·show (if q=q∧y=l then v else F q y)=_
         rw [if_neg (fun h=>hy k (by omega) (by rw [h.2];exact hl.out))]
         exact hF.out.2.2 y h6 (fun j hj=>hy j (by omega))
       rw [hG2] at hss
       have hown':=hss.1
       refine zb fun K hK=>?_
       go_simp
       refine hK.out _ _ ?_
       refine zh ?_
       clear hss zet hLL1 hx1
       go_wp2_with fail
       go_roundw
       case rel=>exact⟨k+1,G2,by go_num,by omega,hF',hown',hx',hLL'⟩
       case measure=>simp [intOf];omega
      ·obtain rfl:k=LL.length:=by omega
       have hF':=za (show ∀ x y,x<q+1→y<6→F x y=aGo a x y from fun x y h1 h2=>by
        by_cases e:x=q
        ·subst e
         by_cases hb:y∈LL
         ·obtain⟨j,hj⟩:=List.getElem?_of_mem hb
          exact hF.out.2.1 j y (List.getElem?_eq_some_iff.1 hj).1 hj
         ·rw [hF.out.2.2 y h2 (fun j _ hj=>hb (List.mem_of_getElem? hj))]
          unfold aGo
          rw [Htn.out,if_neg]
          intro hbt
          exact hb (by rw [← Hlq.out];exact zac.2 ⟨h2,hbt⟩)
        ·exact hF.out.1 x y (by omega) h2)
       go_wp2_with fail
       go_roundw
       case rel=>exact⟨q+1,F,by go_num,by omega,hF',zep,hx,hLL⟩
       case measure=>simp [intOf];omega
  ·obtain rfl:m=q:=by omega
   have hres:=za (show RetTb2 w a (.returned (.slice (some ⟨w1.heap.size,0,none⟩) m m)) wr from by
    refine⟨_,m,by rw [Hn.out],⟨w1.heap.size,hw1.size,?_⟩,hw1.trans hx⟩
    have h1:=zep
    rw [Hn.out,tbC_congr (g:=aGo a) (fun x y hx hy=>hF.out x y (by have:=Hn.out;omega) hy)] at h1
    rw [Hn.out]
    exact h1)
   clear zep
   go_wp2
   go_ret
   exact hres.out
theorem zeb {lo hi:Nat} {B:Option Addr} {m d:Nat} {B':Option Addr} {m' d':Nat} {a:Aut} {w:World}(h:zaS w lo hi B m B' m' a)(hv:zx a=true) :
  Calls Tryd.prog 125 #[.agg #[.int .i64 a.al,.slice B m d,.slice B' m' d']] w (RetTb2 w a):=zec h (fit_of hv) (by omega)
theorem zcG {lo hi:Nat} {B:Option Addr} {m d:Nat} {B':Option Addr} {m' d':Nat} {a:Aut} {w:World}(h:zaS w lo hi B m B' m' a)(hv:zx a=true) :
  Calls Tryd.prog 125 #[.agg #[.int .i64 a.al,.slice B m d,.slice B' m' d']] w (RetTb w a):=by
 refine (zeb h hv).mono ?_
 rintro e w' ⟨A,c,h1,⟨base,-,h2⟩,h3⟩
 exact⟨A,c,h1,⟨base,h2⟩,h3⟩
theorem nats_oneC (l:List Nat):∀ u∈zF l,u.oneCell'=true:=by
 intro u hu
 obtain⟨x,_,rfl⟩:=List.mem_map.1 hu
 rfl
def RetNx (w:World) (base:Nat) (v:Value) (xs:List Value) (R:List Nat) (e:Ending) (w':World):Prop:=
 ∃ v',e=.returned v'∧w'.ownsRow base 3 1 v' (xs.length+R.length) (xs++zF R)∧Frm (fun b=>v.ownBlock=some b) w w'∧(v'.ownBlock=v.ownBlock∨∃ b,v'.ownBlock=some b∧w.heap.size≤b)
theorem flat_snoc {l:List Nat} {a q:Nat} (f:Nat→List Nat)(h:l[a]?=some q):(l.take (a+1)).flatMap f=(l.take a).flatMap f++f q:=by
 rw [List.take_add_one,h]
 simp
theorem drop_cons {ss:List Sys} {j:Nat} {s:Sys}(h:ss[j]?=some s):ss.drop j=s :: ss.drop (j+1):=by
 obtain⟨hj,rfl⟩:=List.getElem?_eq_some_iff.1 h
 exact List.drop_eq_getElem_cons hj
theorem impl_next {lo hi k c lo' hi' d base n m l:Nat} {A M:Option Addr} {ss:List Sys} {v:Value} {xs:List Value} {w:World}(h:PtAt w lo hi A k lo' hi' M ss)(hs:∀ s∈ss,Sml s)(hk4:k≤4)(hm:m≤4611686018427387904)(hl:l<6)(hT:Tab w)
  (zep:w.ownsRow base 3 1 v n xs) (hb:base≤w.heap.size) (hn:n≤1099511627776) :
  Calls Tryd.prog 127 #[.agg #[.slice A k c,.slice M k d],.int .i64 m,.int .i64 l,v] w (RetNx w base v xs (nx ss m l).1):=by
 have HP:=za (fun W (hW:Ext w W)=>h.ext hW)
 have HT:=za (fun W (hW:Ext w W)=>hT.ext hW)
 have HO:=za (fun W (hW:Ext w W)=>zm zep hW)
 have Hs:=za hs
 have hks:=za h.sys.1
 have hfx:=za (fun j=>nx_facts (ss:=ss.drop j) (fun s hx=>hs s (List.mem_of_mem_drop hx)) m l)
 have hfl:=za (fun j=>nx_len (ss:=ss.drop j) (fun s hx=>hs s (List.mem_of_mem_drop hx)) m l)
 have h16:=za (show ∀ j,16 ^ (ss.drop j).length≤65536 from fun j=>by
  have:(ss.drop j).length≤4:=by rw [List.length_drop,← h.sys.1];omega
  exact Nat.le_trans (Nat.pow_le_pow_right (by omega) this) (by decide))
 have hxl:=zep.1
 clear h hs hT zep
 go_enter Tryd.func127,Tryd.ntmps127
 have bp:Blk (w.alloc (.cells #[.slice A k c,.slice M k d] 151)) w.heap.size 151 #[.slice A k c,.slice M k d]:=Blk.new w _ _
 have hx1:=(Ext.refl w).alloc (.cells #[.slice A k c,.slice M k d] 151)
 have h1:=World.ownsRow_lit (base:=w.heap.size) (e:=3) (size:=1) (w.alloc (.cells #[.slice A k c,.slice M k d] 151)) #[.int .i64 0] 1 hx1.size (by decide) rfl
 rw [show (w.alloc (.cells #[.slice A k c,.slice M k d] 151)).heap.size=w.heap.size+1 by simp] at h1
 have hx2:=hx1.alloc (.cells #[.int .i64 0] 3)
 have bp2:=bp.ext ((Ext.refl _).alloc (.cells #[.int .i64 0] 3))
 have cp:=bp2.cell
 go_upto_region 2 with fail
 generalize (w.alloc (.cells #[.slice A k c,.slice M k d] 151)).alloc (.cells #[.int .i64 0] 3)=w2 at *
 go_wp2_with fail
 go_loopw [1,9,10,11] (fun nd rv wt i wr=>∃ (j nd' W:Nat) (R:List Nat),j≤k∧i=.int .i64 ((j:Int) - 1)∧nd=.int .i64 (nd':Nat)∧wt=.int .i64 (W:Nat)∧Hid (nx (ss.drop j) m l=(R,W,nd'))∧wr.ownsRow w.heap.size 3 1 rv R.length (zF R)∧Ext w2 wr) (fun _ _ _ i _=>(intOf i+1).toNat)
 case atStart=>exact⟨k,m,1,[0],Nat.le_refl _,by go_num,rfl,rfl,za (by rw [List.drop_of_length_le (by rw [← hks.out];exact Nat.le_refl _)];rfl),h1,Ext.refl _⟩
 case round =>
  clear h1 cp
  obtain⟨j,nd,W,R,hj,rfl,rfl,rfl,hnx,hR,hxr⟩:=hrel
  have hcp:=bp2.ext hxr
  have cp:=hcp.cell
  by_cases hlt:1≤j
  ·obtain⟨i,rfl⟩:∃ i,j=i+1:=⟨j - 1,by omega⟩
   obtain⟨g,o,s,B,q,c',rfl,_,_,hs,c0,c1,c2,-⟩:=(HP.out wr (hx2.trans hxr)).sys.sys (k:=i) (by omega)
   have hsm:=za (Hs.out s (List.mem_of_getElem? hs.out))
   obtain⟨p,hp⟩:∃ p:Nat,Hid (s.st=p):=⟨s.st.toNat,za (by have:=hsm.out.1;omega)⟩
   have hp1:1≤p∧p≤16:=by have:=hsm.out.1;have:=hsm.out.2.1;have:=hp.out;omega
   obtain⟨al,hal⟩:∃ al:Nat,Hid (s.al=al):=⟨s.al.toNat,za (by have:=hsm.out.2.2.2;omega)⟩
   have hsa:Sm al:=by have:=hsm.out.2.2.2;have:=hal.out;unfold Sm;omega
   rw [hal.out] at c0
   rw [hp.out] at c1
   have hi0:(((i+1:Nat):Int) - 1)=(i:Int):=by omega
   rw [hi0]
   have hF:=hfx.out (i+1)
   have hFl:=hfl.out (i+1)
   have h65:=h16.out (i+1)
   rw [hnx.out] at hF hFl
   obtain⟨hW1,hW2,hRW,hRn,hnd⟩:=hF
   have HRW:=za hRW
   clear hRW hRn
   dsimp only at hW1 hW2 hnd hFl
   obtain⟨T,hT1⟩:∃ T,Hid (cho s (nd % p) l=T):=⟨_,za rfl⟩
   have hTl:T.length≤16:=by
    have:=cho_len hsm.out (i:=nd % p) (l:=l) (by have:=hp.out;have:=Nat.mod_lt nd (show 0<p by omega);omega)
    rw [hT1.out] at this
    have:=hp.out
    omega
   have hTlt:=za (show ∀ q∈T,q<16 from fun q hq=>by
    have:=cho_lt hsm.out (i:=nd % p) (l:=l) (by have:=hp.out;have:=Nat.mod_lt nd (show 0<p by omega);omega) q (by rw [hT1.out];exact hq)
    have:=hp.out
    omega)
   have hmod:((nd:Int)).tmod (p:Int)=((nd % p:Nat):Int):=rfl
   have hdiv:((nd:Int)).tdiv (p:Int)=((nd / p:Nat):Int):=rfl
   have hik:(i:Int)<(k:Int):=by omega
   have hxs:=(Ext.refl wr).alloc (.cells #[.int .i64 al,.int .i64 p,.slice B q c'] 39)
   have bs:=Blk.new wr 39 #[.int .i64 al,.int .i64 p,.slice B q c']
   have hnd9:(nd:Int)≤4611686018427387904:=by omega
   have hpp:((p:Int)==0)=false:=by simp;omega
   go_upto_region 6 with fail
   clear c0 c1 c2 cp
   have cp:=(hcp.ext hxs).cell
   have hcp3:=hcp.ext hxs
   have hR3:=zm hR hxs
   have hxr3:=hxr.trans hxs
   generalize wr.alloc (.cells #[.int .i64 al,.int .i64 p,.slice B q c'] 39)=w3 at *
   generalize wr.heap.size=G3 at *
   have c3:=bs.cell
   go_upto_region 7 with fail
   obtain⟨z,hz'⟩:∃ z:Nat,Hid (nd % p=z):=⟨_,za rfl⟩
   have hz:((nd:Int) % (p:Int))=(z:Int):=by rw [← hz'.out];exact (Int.natCast_emod nd p).symm
   have hzp:z<16:=by have:=Nat.mod_lt nd (show 0<p by omega);have:=hz'.out;omega
   rw [hz]
   rw [hz'.out] at hT1
   have hxz:=(Ext.refl w3).alloc (.cells #[.int .i64 (z:Int)] 3)
   have h4:=World.ownsRow_lit (base:=w.heap.size) (e:=3) (size:=1) w3 #[.int .i64 (z:Int)] 1 (Nat.le_trans (Nat.le_trans hx2.size hxr3.size) (Nat.le_refl _)) (by decide) rfl
   have hcp4:=hcp3.ext hxz
   have bs4:=bs.ext hxz
   have hR4:=zm hR3 hxz
   have hxr4:=hxr3.trans hxz
   clear c3 cp bs hcp3 hR3 hxr3 hR hxr hcp hxs
   generalize w3.alloc (.cells #[.int .i64 (z:Int)] 3)=w4 at *
   generalize w3.heap.size=G4 at *
   have c4:=bs4.cell
   have hHb:hasB al (l:Nat)=al.testBit l:=by simp [hasB]
   go_upto_if 41 with (go_at_call 30;refine (zbl al l hsa _).mono ?_;rw [hHb];rintro e w4 ⟨rfl,rfl⟩)
   go_cut [13] (fun tv wx=>∃ (A':Option Addr) (c2:Nat),tv=.slice A' T.length c2∧Reads wx 0 wx.heap.size 1 A' T.length (zF T)∧Ext w4 wx)
   case first =>
    cases hbt:al.testBit l
    ·have hTz:T=[z]:=by
      rw [← hT1.out,cho,hal.out,Int.toNat_natCast,hbt];rfl
     subst hTz
     go_wp2_with fail
     go_meet
     exact⟨_,_,rfl,(Reads.of_own h4).more (Nat.zero_le _) (Nat.le_refl _),Ext.refl _⟩
    ·have hTz:T=letters (succ s.edges (z:Nat) (l:Nat)) 32:=by
      rw [← hT1.out,cho,hal.out,Int.toNat_natCast,hbt];rfl
     go_upto_region 8 with fail
     clear c4
     obtain⟨mbs,hmr,hmv⟩:=(HP.out _ (hx2.trans hxr4)).mov
     obtain⟨adM,u,rfl,_,_,hu,hcM⟩:=hmr.one (k:=i) (by omega)
     obtain⟨b,hbi,rfl⟩:∃ b,mbs[i]?=some b∧u=.pointer (some ⟨b,0,none⟩):=by
      have:=hu.out
      simp only [ptrs,List.getElem?_map,Option.map_eq_some_iff] at this
      obtain⟨b,h1,h2⟩:=this
      exact⟨b,h1,h2.symm⟩
     have hmb:=(hmv.2 i b s hbi hs.out).at_
     have s16:Few 16 s.edges:=fun e he=>by
      have:=hsm.out.2.2.1 e he
      have:=hp.out
      omega
     have s1:=zcD s16 (Nat.le_refl _) (z:Nat) (l:Nat)
     have cP:=hcp4.cells
     have cS:∀ W,Ext w4 W→∀ q',W.cell? ⟨G3,q',none⟩=#[Value.int .i64 al,.int .i64 p,.slice B q c'][q']?:=fun W hW=>(bs4.ext hW).cell
     have cM:∀ W,Ext w4 W→W.cell? (adM.add i)=some (.pointer (some ⟨b,0,none⟩)):=fun W hW=>hW.cell_some hcM
     have cV:∀ W,Ext w4 W→W.cell? ⟨b,z*6+l,none⟩=some (.int .i64 (succ s.edges (z:Nat) (l:Nat):Nat)):=fun W hW=>hW.cell_some (hmb z l hzp hl)
     have hz16:(z:Int)<16:=by omega
     have hl6:(l:Int)<6:=by omega
     have hp0:¬ (p=0):=by omega
     have hTT:=za hTz
     generalize succ s.edges (z:Nat) (l:Nat)=sc at *
     have hww:=Ext.refl w4
     clear hcM hmb hTz
     refine uR (fun X=>Ext w4 X) [14] (zE.of [0,1,2,3,4,5,6,7,8,9,10,11,12,13,14,15]) ?_
     refine uQ ?_
     refine ze fun K hK=>?_;go_simp
     refine hK.out _ _ hww.drew ?_
     refine pT ?_
     refine uQ ?_
     refine ze fun K hK=>?_;go_simp
     refine (zaU sc s1 _ (HT.out _ (hx2.trans (hxr4.trans hww.drew)))).mono ?_
     rintro e w5 ⟨A5,c5,rfl,zew,hx5⟩
     have hww5:=hww.drew.trans hx5
     rw [← hTT.out] at zew ⊢
     refine hK.out _ _ hww5 ?_
     refine pT ?_
     refine uQ ?_
     refine zh ?_
     go_wp2_with fail
     go_meet
     exact⟨_,_,rfl,(Reads.of_own zew).more (Nat.zero_le _) (Nat.le_refl _),hww5⟩
   case rest =>
    obtain⟨A',c2,rfl,hT5,hx45⟩:=hcut
    have hR5:=zm hR4 hx45
    have bs5:=bs4.ext hx45
    have hxr5:=hxr4.trans hx45
    have hcp5:=hcp4.ext hx45
    clear h4 hR4 bs4 hxr4 hcp4 hx45 c4
    have hTn:=hT5.len
    have HR5:=za hR5
    obtain⟨AR,cR,rfl⟩:=zl hR5
    have hRr:=Reads.of_own hR5
    have hRlen:R.length≤65536:=by omega
    clear hR5
    go_wp2_with fail
    go_loopw [14,59] (fun mv ia wx=>∃ a:Nat,a≤T.length∧ia=.int .i64 (a:Nat)∧wx.ownsRow wc.heap.size 3 1 mv ((T.take a).flatMap fun q=>R.map fun x=>q*W+x).length (zF ((T.take a).flatMap fun q=>R.map fun x=>q*W+x))∧Ext wc wx) (fun _ ia _=>T.length - (intOf ia).toNat)
    case atStart=>exact⟨0,Nat.zero_le _,rfl,World.ownsRow_nil _ _ _ _,Ext.refl _⟩
    case round =>
     obtain⟨a,ha,rfl,hmo,hxw⟩:=hrel
     by_cases hat:a<T.length
     ·obtain⟨adT,qv,rfl,_,_,hqv,hqc⟩:=(hT5.ext hxw).one (k:=a) hat
      obtain⟨q1,hq1,rfl⟩:∃ q1,Hid (T[a]?=some q1)∧qv=.int .i64 (q1:Nat):=by
       have:=hqv.out
       simp only [zF,List.getElem?_map,Option.map_eq_some_iff] at this
       obtain⟨x,h1,h2⟩:=this
       exact⟨x,za h1,h2.symm⟩
      have hq16:=hTlt.out q1 (List.mem_of_getElem? hq1.out)
      have hsn:=za (flat_snoc (fun q=>R.map fun x=>q*W+x) hq1.out)
      have hpl:((T.take a).flatMap fun q=>R.map fun x=>q*W+x).length≤16*65536:=by
       have:∀ L:List Nat,(L.flatMap fun q=>R.map fun x=>q*W+x).length=L.length*R.length:=by
        intro L
        induction L with
        |nil=>simp
        |cons x r ih=>rw [List.flatMap_cons,List.length_append,ih,List.length_map,List.length_cons,Nat.add_mul,Nat.one_mul,Nat.add_comm]
       rw [this,List.length_take]
       exact Nat.mul_le_mul (by omega) hRlen
      generalize (T.take a).flatMap (fun q=>R.map fun x=>q*W+x)=P at *
      go_upto_region 13 with fail
      clear hqc
      go_wp2_with fail
      go_loopw [14,65] (fun mv ib wy=>∃ b:Nat,b≤R.length∧ib=.int .i64 (b:Nat)∧wy.ownsRow wc.heap.size 3 1 mv (P++(R.take b).map fun x=>q1*W+x).length (zF (P++(R.take b).map fun x=>q1*W+x))∧Ext wc wy) (fun _ ib _=>R.length - (intOf ib).toNat)
      case atStart=>exact⟨0,Nat.zero_le _,rfl,by simpa using hmo,hxw⟩
      case round =>
       obtain⟨b,hb',rfl,hmo3,hxy⟩:=hrel
       by_cases hbt:b<R.length
       ·obtain⟨adR,rv,rfl,_,_,hrv,hrc⟩:=(hRr.ext hxy).one (k:=b) hbt
        obtain⟨r1,hr1,rfl⟩:∃ r1,Hid (R[b]?=some r1)∧rv=.int .i64 (r1:Nat):=by
         have:=hrv.out
         simp only [zF,List.getElem?_map,Option.map_eq_some_iff] at this
         obtain⟨x,h1,h2⟩:=this
         exact⟨x,za h1,h2.symm⟩
        have hr16:=HRW.out r1 (List.mem_of_getElem? hr1.out)
        have hmul:q1*W≤16*65536:=Nat.mul_le_mul (by omega) (by omega)
        have hPl:(P++(R.take b).map fun x=>q1*W+x).length≤17*65536:=by
         rw [List.length_append,List.length_map,List.length_take]
         omega
        obtain⟨qw,hqw⟩:∃ qw:Nat,Hid (q1*W=qw):=⟨_,za rfl⟩
        have hqwi:(q1:Int)*(W:Int)=(qw:Int):=by rw [← hqw.out];exact (Int.natCast_mul q1 W).symm
        have hsn3:=za (show (P++(R.take (b+1)).map fun x=>q1*W+x)=(P++(R.take b).map fun x=>q1*W+x)++[qw+r1] by
         rw [List.take_add_one,hr1.out,← hqw.out]
         simp)
        rw [hqw.out] at hmul
        generalize P++(R.take b).map (fun x=>q1*W+x)=P3 at *
        go_wp2_with (at_builtin;refine zI wc wr rfl _ _ _ rfl 3 _ 1 8 Tryd.underlying62 zS rfl (by decide) u14 _ _ _ _ rfl rfl hxy hmo3 rfl (zaC _) (by unfold maxLen;omega) (by omega) ?_;intro v' w1 hext1 zet hg1 hat1)
        go_roundw
        case rel=>exact⟨b+1,by omega,by go_num,by rw [hsn3.out,List.length_append];simpa [zF] using zet,hext1⟩
        case measure=>simp [intOf];omega
       ·obtain rfl:b=R.length:=by omega
        rw [List.take_length] at hmo3
        go_wp2_with fail
        go_roundw
        case rel=>exact⟨a+1,by omega,by go_num,by rw [hsn.out];exact hmo3,hxy⟩
        case measure=>simp [intOf];omega
     ·obtain rfl:a=T.length:=by omega
      rw [List.take_length] at hmo
      have c5:=(bs5.ext hxw).cell
      have hdv:((nd:Int) / (p:Int))=((nd / p:Nat):Int):=(Int.natCast_ediv nd p).symm
      have hwp:W*p≤65536*16:=Nat.mul_le_mul (by omega) (by omega)
      obtain⟨wp,hwp'⟩:∃ wp:Nat,Hid (W*p=wp):=⟨_,za rfl⟩
      have hwpi:(W:Int)*(p:Int)=(wp:Int):=by rw [← hwp'.out];exact (Int.natCast_mul W p).symm
      rw [hwp'.out] at hwp
      have hnx2:=za (show nx (ss.drop i) m l=(T.flatMap (fun q=>R.map fun x=>q*W+x),wp,nd / p) by
       rw [drop_cons hs.out,nx,hnx.out,← hwp'.out,← hT1.out]
       have e:s.st.toNat=p:=by have:=hp.out;omega
       rw [e,hz'.out])
      have hp0:¬ (p=0):=by omega
      have hxx:=hxr5.trans hxw
      have hwc:w.heap.size≤wc.heap.size:=Nat.le_trans hx2.size hxr5.size
      have hmo':=zT hmo hwc
      obtain⟨ndp,hndp⟩:∃ y:Nat,Hid (nd / p=y):=⟨_,za rfl⟩
      rw [hndp.out] at hdv hnx2
      have hnle:ndp≤nd:=by rw [← hndp.out];exact Nat.div_le_self _ _
      go_wp2_with fail
      go_roundw
      case rel=>exact⟨i,ndp,wp,_,by omega,by go_num,by go_num,by go_num,hnx2,hmo',hxx⟩
      case measure=>simp [intOf]
  ·obtain rfl:j=0:=by omega
   have hnx0:=za (show (nx ss m l).1=R by
    have:=hnx.out
    rw [List.drop_zero] at this
    rw [this])
   have hlR:=hfl.out 0
   have h65:=h16.out 0
   rw [List.drop_zero,hnx0.out] at hlR
   rw [List.drop_zero] at h65
   have hO:=HO.out wr (hx2.trans hxr)
   have hww:=hx2.trans hxr
   have hxn:xs.length=n:=by omega
   obtain⟨AR,cR,rfl⟩:=zl hR
   have hRr:=Reads.of_own hR
   have hneg:¬ (0≤(((0:Nat):Int) - 1)):=by omega
   go_wp2_with (at_builtin;refine wpList_onto wr rfl _ _ 62 rfl base 3 _ 1 8 Tryd.underlying62 zS rfl (by decide) v n xs rfl hO _ _ AR R.length cR (zF R) rfl hRr (nats_oneC R) (by unfold maxLen;omega) (by omega) (Nat.le_trans hb hww.size) ?_;intro v' w5 zew hg5 hat5)
   go_ret
   refine⟨v',rfl,by rw [hxn,hnx0.out];exact zew,hww.toFrm.trans ((Frm.of_grown hg5).mono fun b _ h=>h),?_⟩
   rcases hat5 with h|h
   ·exact .inl h
   ·exact .inr ⟨_,h,hww.size⟩
structure BCaps (w:World) (g8 g10 g11 g12 g13:Nat) (A M UA RA:Option Addr) (k c dm uc rc:Nat) (ss:List Sys) (a p:Aut):Prop where
 h8:Blk w g8 151 #[.slice A k c,.slice M k dm]
 h10:Blk w g10 154 #[.slice UA a.next.length uc]
 h11:Blk w g11 154 #[.slice RA p.next.length rc]
 h12:Blk w g12 3 #[.int .i64 (a.next.length:Nat)]
 h13:Blk w g13 3 #[.int .i64 (p.next.length:Nat)]
 pt:∃ lo hi lo' hi',PtAt w lo hi A k lo' hi' M ss
 tu:∃ lo hi,TbAt w lo hi UA a
 tr:∃ lo hi,TbAt w lo hi RA p
theorem BCaps.ext {w w':World} {g8 g10 g11 g12 g13:Nat} {A M UA RA:Option Addr} {k c dm uc rc:Nat} {ss:List Sys} {a p:Aut}(h:BCaps w g8 g10 g11 g12 g13 A M UA RA k c dm uc rc ss a p)(hx:Ext w w'):BCaps w' g8 g10 g11 g12 g13 A M UA RA k c dm uc rc ss a p:=by
 obtain⟨lo,hi,lo',hi',h1⟩:=h.pt
 obtain⟨lo2,hi2,h2⟩:=h.tu
 obtain⟨lo3,hi3,h3⟩:=h.tr
 exact⟨h.h8.ext hx,h.h10.ext hx,h.h11.ext hx,h.h12.ext hx,h.h13.ext hx,⟨lo,hi,lo',hi',h1.ext hx⟩,⟨lo2,hi2,h2.ext hx⟩,⟨lo3,hi3,h3.ext hx⟩⟩
theorem zck {ss:List Sys}(h:∀ s∈ss,Sml s):1≤zu (ss.map zcl):=zdk fun m hm=>by
 obtain⟨s,hs,rfl⟩:=List.mem_map.1 hm
 exact zei (h s hs)
theorem zbw {ss:List Sys}(h:∀ s∈ss,Sml s):zu (ss.map zcl)≤16 ^ ss.length:=by
 have h1:∀ x∈(ss.map zcl).map Prod.fst,x≤16:=fun x hx=>by
  rw [List.map_map] at hx
  obtain⟨s,hs,rfl⟩:=List.mem_map.1 hx
  have h1:=(h s hs).1;have h2:=(h s hs).2.1
  simp only [Function.comp,zcl]
  omega
 have:=prodS_le h1
 simpa [zu] using this
theorem parts_size {A M:Option Addr} {k c dm:Nat} {lo hi lo' hi':Nat} {ss:List Sys} {w:World}(h:PtAt w lo hi A k lo' hi' M ss)(hs:∀ s∈ss,Sml s)(hk:k≤3) :
  Calls Tryd.prog 130 #[.agg #[.slice A k c,.slice M k dm]] w fun e w'=>e=.returned (.int .i64 (zu (ss.map zcl):Nat))∧Ext w w':=by
 have HS:=za (fun W (hW:Ext w W)=>h.sys.ext hW)
 have hL:=za h.sys.1
 have Hs:=za hs
 have hb1:=Blk.new w 151 #[.slice A k c,.slice M k dm]
 have hw1:Ext w (w.alloc (.cells #[.slice A k c,.slice M k dm] 151)):=(Ext.refl w).alloc _
 have Hp:=za (show ∀ j,1≤zu ((ss.take j).map zcl)∧zu ((ss.take j).map zcl)≤4096 from fun j=>by
  have h1:∀ s∈ss.take j,Sml s:=fun s hs'=>hs s (List.mem_of_mem_take hs')
  refine⟨zck h1,Nat.le_trans (zbw h1) ?_⟩
  have h2:(ss.take j).length≤3:=by rw [List.length_take];have:=h.sys.1;omega
  calc 16 ^ (ss.take j).length≤16 ^ 3:=Nat.pow_le_pow_right (by omega) h2
   _=4096:=by decide)
 clear hs h
 go_enter Tryd.func130,Tryd.ntmps130
 go_upto_region 1 with fail
 generalize w.alloc (.cells #[.slice A k c,.slice M k dm] 151)=w1 at *
 have c1:=hb1.cell
 go_wp2_with fail
 go_loopw [3,5,9] (fun v _ i wr=>∃ j y:Nat,i=.int .i64 j∧j≤k∧v=.int .i64 y∧y≤4096∧Hid (y=zu ((ss.take j).map zcl))∧Ext w wr) (fun _ _ i _=>k - (intOf i).toNat)
 case atStart=>exact⟨0,1,rfl,Nat.zero_le _,rfl,by omega,rfl,hw1⟩
 case round =>
  obtain⟨j,y,rfl,hj,rfl,hy,hyo,hx⟩:=hrel
  by_cases hlt:j<k
  ·obtain⟨b,o,s,B,q,d,rfl,_,_,hs,c0,c1,c2,_⟩:=(HS.out wr hx).sys hlt
   have hss:=Hs.out s (List.mem_of_getElem? hs.out)
   obtain⟨p,hp⟩:∃ p:Nat,Hid (s.st=p):=⟨s.st.toNat,by have:=hss.1;unfold Hid;omega⟩
   have hst:=za (show zu ((ss.take (j+1)).map zcl)=y*p by
    rw [List.take_add_one,hs.out,Option.toList_some,List.map_append,zaJ,← hyo.out]
    simp [zu,zaM,zcl,hp.out])
   have hle:=(Hp.out (j+1)).2
   rw [hst.out] at hle
   obtain⟨z,hz⟩:∃ z:Nat,Hid (y*p=z):=⟨_,rfl⟩
   have hzi:(y:Int)*(p:Int)=(z:Int):=by rw [← hz.out];exact (Int.natCast_mul y p).symm
   rw [hz.out] at hle hst
   rw [hp.out] at c1
   clear hss
   go_wp2_with fail
   go_roundw
   case rel=>exact⟨j+1,z,by go_num,by omega,by go_num,hle,hst.symm,by first|exact hx.alloc _|exact (hx.alloc _).drew⟩
   case measure=>simp [intOf];omega
  ·obtain rfl:k=j:=by omega
   have zes:=za (show y=zu (ss.map zcl) by rw [hyo.out,List.take_of_length_le (by have:=hL.out;omega)])
   go_wp2
   go_ret
   exact⟨zaO (by rw [zes.out]),hx⟩
structure GCaps (w:World) (g4 ga g5 g12 g13:Nat) (a p:Aut):Prop where
 h4:Blk w g4 148 #[.pointer (some ⟨ga,0,none⟩)]
 ha:∃ (B:Option Addr) (m d:Nat) (B':Option Addr) (m' d' lo hi:Nat),Blk w ga 30 #[.int .i64 a.al,.slice B m d,.slice B' m' d']∧zaS w lo hi B m B' m' a
 h5:∃ (B:Option Addr) (m d:Nat) (B':Option Addr) (m' d' lo hi:Nat),Blk w g5 30 #[.int .i64 p.al,.slice B m d,.slice B' m' d']∧zaS w lo hi B m B' m' p
 h12:Blk w g12 3 #[.int .i64 (a.next.length:Nat)]
 h13:Blk w g13 3 #[.int .i64 (p.next.length:Nat)]
theorem GCaps.ext {w w':World} {g4 ga g5 g12 g13:Nat} {a p:Aut}(h:GCaps w g4 ga g5 g12 g13 a p)(hx:Ext w w'):GCaps w' g4 ga g5 g12 g13 a p:=by
 obtain⟨B,m,d,B',m',d',lo,hi,h1,h2⟩:=h.ha
 obtain⟨C,n,c,C',n',c',lo',hi',h3,h4⟩:=h.h5
 exact⟨h.h4.ext hx,⟨B,m,d,B',m',d',lo,hi,h1.ext hx,h2.ext hx⟩,⟨C,n,c,C',n',c',lo',hi',h3.ext hx,h4.ext hx⟩,h.h12.ext hx,h.h13.ext hx⟩
theorem accB_cell {w:World} {lo hi q:Nat} {B B':Option Addr} {m m':Nat} {a:Aut}(h:zaS w lo hi B m B' m' a)(hq:q<m'):∃ ad,B'=some ad∧w.cell? (ad.add q)=some (.bool (accB a q)):=by
 obtain⟨ad,x,rfl,_,_,hx,hc⟩:=h.2.2.bool hq
 exact⟨ad,rfl,by rw [hc];unfold accB;rw [List.getD_eq_getElem?_getD,hx.out];rfl⟩
theorem brk_goal {g4 ga g5 g12 g13 x:Nat} {a p:Aut} {w:World}(h:GCaps w g4 ga g5 g12 g13 a p)(hv:zx a=true)(hp:zx p=true)(hx:x≤4611686018427387904) :
  Calls Tryd.prog 128 #[.int .i64 (x:Nat),.pointer (some ⟨g4,0,none⟩),.pointer (some ⟨g13,0,none⟩),.pointer (some ⟨g12,0,none⟩),.pointer (some ⟨g5,0,none⟩)] w fun e w'=>e=.returned (.bool (accB a (x / p.next.length % a.next.length)&&!accB p (x % p.next.length)))∧Ext w w':=by
 obtain⟨_,⟨a1,a2⟩,a3,_⟩:=zy hv
 obtain⟨_,⟨p1,p2⟩,p3,_⟩:=zy hp
 obtain⟨B,m,d,B',m',d',lo,hi,ha,hA⟩:=h.ha
 obtain⟨C,n,c,C',n',c',lo',hi',h5,hP⟩:=h.h5
 have hm':=hA.n2
 have hn':=hP.n2
 have h4:=h.h4
 have h12:=h.h12
 have h13:=h.h13
 clear h hv hp
 generalize hNa:a.next.length=N at *
 generalize hNp:p.next.length=Mp at *
 have hN0:x / Mp % N<N:=Nat.mod_lt _ a1
 have hM0:x % Mp<Mp:=Nat.mod_lt _ p1
 obtain⟨ad,rfl,hc1⟩:=accB_cell hA (q:=x / Mp % N) (by omega)
 obtain⟨ad2,rfl,hc2⟩:=accB_cell hP (q:=x % Mp) (by omega)
 have hdv:(x:Int) / (Mp:Int)=((x / Mp:Nat):Int):=(Int.natCast_ediv x Mp).symm
 have hmd:((x / Mp:Nat):Int) % (N:Int)=((x / Mp % N:Nat):Int):=(Int.natCast_emod _ N).symm
 have hmd2:(x:Int) % (Mp:Int)=((x % Mp:Nat):Int):=(Int.natCast_emod x Mp).symm
 have hxd:x / Mp≤4611686018427387904:=Nat.le_trans (Nat.div_le_self _ _) hx
 have hN1:¬ (N=0):=by omega
 have hM1:¬ (Mp=0):=by omega
 have hqm:x / Mp % N<m':=by omega
 have hqn:x % Mp<n':=by omega
 have K4:=h4.cell 0
 have Ka:=ha.cell
 have K5:=h5.cell
 have K12:=h12.cell 0
 have K13:=h13.cell 0
 clear h4 h12 h13 ha h5 hA hP hm' hn' a3 p3 hNa hNp hN0 hM0 a1 a2 p1 p2
 generalize x / Mp % N=q1 at *
 generalize x % Mp=q2 at *
 generalize x / Mp=xd at *
 have hq1:(q1:Int)<(m':Int):=by omega
 have hq2:(q2:Int)<(n':Int):=by omega
 generalize accB a q1=b1 at *
 generalize accB p q2=b2 at *
 cases b1
 all_goals
  go_enter Tryd.func128,Tryd.ntmps128
  go_wp2_with fail
  go_quiet (fail)
  go_wp2_with fail
  go_ret
  exact⟨zf (by simp),(Ext.refl _).drewN _⟩
def zbB (ss:List Sys) (a p:Aut) (x l:Nat):List Nat:=(nx ss (x / p.next.length / a.next.length) l).1.map fun y=>y*a.next.length*p.next.length+(aGo a (x / p.next.length % a.next.length) l*p.next.length+aGo p (x % p.next.length) l)
theorem zdW (ss:List Sys) (a p:Aut):zbB ss a p=pnx (mems ss [a,p]):=by
 funext x l
 rw [zbB,mems,List.map_cons,List.map_cons,List.map_nil,pnx_under]
theorem mix_set {xs R:List Nat} {f:Nat→Nat} {j r:Nat}(hr:R[j]?=some r):(zF (xs++(R.take j).map f++R.drop j)).set (xs.length+j) (.int .i64 (f r:Nat))=zF (xs++(R.take (j+1)).map f++R.drop (j+1)):=by
 have hj:=(List.getElem?_eq_some_iff.1 hr).1
 have hd:R.drop j=r :: R.drop (j+1):=by
  have:=(List.getElem?_eq_some_iff.1 hr).2
  rw [← this]
  exact List.drop_eq_getElem_cons hj
 unfold zF
 rw [← List.map_set]
 congr 1
 rw [List.take_add_one,hr,Option.toList_some,List.map_append,hd,List.set_append_right _ _ (by simp;omega)]
 have:xs.length+j - (xs++(R.take j).map f).length=0:=by simp;omega
 rw [this]
 simp
theorem mix_get {xs R:List Nat} {f:Nat→Nat} {j r:Nat}(hr:R[j]?=some r):(zF (xs++(R.take j).map f++R.drop j))[xs.length+j]?=some (.int .i64 (r:Nat)):=by
 have hj:=(List.getElem?_eq_some_iff.1 hr).1
 unfold zF
 rw [List.getElem?_map,List.getElem?_append_right (by simp;omega)]
 have:xs.length+j - (xs++(R.take j).map f).length=0:=by simp;omega
 rw [this,List.getElem?_drop,Nat.add_zero,hr]
 rfl
def RetBrk (w:World) (base:Nat) (v:Value) (ys:List Nat) (e:Ending) (w':World):Prop:=∃ A' c',e=.returned (.slice A' ys.length c')∧w'.ownsRow base 3 1 (.slice A' ys.length c') ys.length (zF ys)∧Frm (fun b=>v.ownBlock=some b) w w'
theorem brk_next {w0 w:World} {g8 g10 g11 g12 g13 base x l m c c0 k dm uc rc:Nat} {A M UA RA Ao:Option Addr} {ss:List Sys} {a p:Aut} {xs:List Nat}(h:BCaps w0 g8 g10 g11 g12 g13 A M UA RA k c dm uc rc ss a p)(hT:Tab w0)(hw:Ext w0 w)(hs:∀ s∈ss,Sml s)(hk:k≤3)(hv:zx a=true)(hp:zx p=true)
  (hx:x<zu (mems ss [a,p])) (hl:l<6) (hb0:w0.heap.size≤base) (hb:base≤w.heap.size) (hm:m≤1099511627776) (zep:w.ownsRow base 3 1 (.slice Ao m c0) m (zF xs)) :
  Calls Tryd.prog 126 #[.int .i64 (x:Nat),.int .i64 (l:Nat),.slice Ao m c0,.pointer (some ⟨g10,0,none⟩),.pointer (some ⟨g13,0,none⟩),.pointer (some ⟨g12,0,none⟩),.pointer (some ⟨g11,0,none⟩),.pointer (some ⟨g8,0,none⟩)] w (RetBrk w base (.slice Ao m c0) (xs++zbB ss a p x l)):=by
 obtain⟨_,⟨a1,a2⟩,_,_⟩:=zy hv
 obtain⟨_,⟨p1,p2⟩,_,_⟩:=zy hp
 have hgu:=za (fun q (hq:q<a.next.length)=>aGo_lt hv hq hl)
 have hgp:=za (fun q (hq:q<p.next.length)=>aGo_lt hp hq hl)
 have hN4:zu (mems ss [a,p])≤4096*144:=by
  have h1:mems ss [a,p]=ss.map zcl++[zbg a,zbg p]:=rfl
  rw [h1,zaJ]
  have h2:=zbw hs
  obtain⟨lo,hi,lo',hi',h3⟩:=h.pt
  have h4:16 ^ ss.length≤4096:=by
   calc 16 ^ ss.length≤16 ^ 3:=Nat.pow_le_pow_right (by omega) (by have:=h3.sys.1;omega)
    _=4096:=by decide
  have h5:zu [zbg a,zbg p]≤144:=by
   simp only [zu,zaM,zbg,List.map_cons,List.map_nil,Nat.mul_one]
   exact Nat.mul_le_mul a2 p2
  exact Nat.mul_le_mul (Nat.le_trans h2 h4) h5
 have hmemlt:=za (fun y hy=>pnx_lt (ms:=mems ss [a,p]) (x:=x) (fun mm hmm=>by
  rcases List.mem_append.1 hmm with h1|h1
  ·obtain⟨s,hs',rfl⟩:=List.mem_map.1 h1
   exact zei (hs s hs')
  ·obtain⟨b,hb',rfl⟩:=List.mem_map.1 h1
   simp at hb'
   rcases hb' with rfl|rfl
   ·exact zbi hv
   ·exact zbi hp) hl y hy)
 have hnxl:=za (nx_len hs (x / p.next.length / a.next.length) l)
 have hDe:=za (show zbB ss a p x l=(nx ss (x / p.next.length / a.next.length) l).1.map fun y=>y*a.next.length*p.next.length+(aGo a (x / p.next.length % a.next.length) l*p.next.length+aGo p (x % p.next.length) l) from rfl)
 have Hlt:=za (show ∀ y∈zbB ss a p x l,y<589824 from fun y hy=>by
  rw [zdW] at hy
  have:=hmemlt.out y hy
  omega)
 have HC:=za (fun W (hW:Ext w0 W)=>h.ext hW)
 have hpt:∃ lo hi lo' hi',∀ W,Ext w0 W→PtAt W lo hi A k lo' hi' M ss:=by
  obtain⟨lo,hi,lo',hi',h3⟩:=h.pt
  exact⟨lo,hi,lo',hi',fun W hW=>h3.ext hW⟩
 obtain⟨lo,hi,lo',hi',hpt⟩:=hpt
 have Hpt:=za hpt
 have HT:=za (fun W (hW:Ext w0 W)=>hT.ext hW)
 have Hs:=za hs
 clear h hT hs hv hp hmemlt hpt
 obtain⟨N,hN⟩:∃ N,Hid (a.next.length=N):=⟨_,rfl⟩
 obtain⟨Mp,hMp⟩:∃ Mp,Hid (p.next.length=Mp):=⟨_,rfl⟩
 rw [hN.out] at a1 a2 hgu hnxl hDe
 rw [hMp.out] at p1 p2 hgp hnxl hDe
 have hN0:x / Mp % N<N:=Nat.mod_lt _ a1
 have hM0:x % Mp<Mp:=Nat.mod_lt _ p1
 have hu:=hgu.out _ hN0
 have hr:=hgp.out _ hM0
 obtain⟨ug,uo,rfl,hcu⟩:∃ g o,UA=some ⟨g,o,none⟩∧∀ W,Ext w0 W→W.cell? ⟨g,o+x / Mp % N*6+l,none⟩=some (.int .i64 (aGo a (x / Mp % N) l:Nat)):=by
  obtain⟨l1,h1,htb⟩:=(HC.out w0 (Ext.refl _)).tu
  obtain⟨g,o,e,hc⟩:=htb.at_ (q:=x / Mp % N) (by rw [hN.out];exact hN0) hl
  exact⟨g,o,e,fun W hW=>hW.cell_some hc⟩
 obtain⟨rg,ro,rfl,hcr⟩:∃ g o,RA=some ⟨g,o,none⟩∧∀ W,Ext w0 W→W.cell? ⟨g,o+x % Mp*6+l,none⟩=some (.int .i64 (aGo p (x % Mp) l:Nat)):=by
  obtain⟨l1,h1,htb⟩:=(HC.out w0 (Ext.refl _)).tr
  obtain⟨g,o,e,hc⟩:=htb.at_ (q:=x % Mp) (by rw [hMp.out];exact hM0) hl
  exact⟨g,o,e,fun W hW=>hW.cell_some hc⟩
 have hdv:(x:Int) / (Mp:Int)=((x / Mp:Nat):Int):=(Int.natCast_ediv x Mp).symm
 have hdv2:((x / Mp:Nat):Int) / (N:Int)=((x / Mp / N:Nat):Int):=(Int.natCast_ediv _ N).symm
 have hmd:((x / Mp:Nat):Int) % (N:Int)=((x / Mp % N:Nat):Int):=(Int.natCast_emod _ N).symm
 have hmd2:(x:Int) % (Mp:Int)=((x % Mp:Nat):Int):=(Int.natCast_emod x Mp).symm
 have hxs:x≤589824:=by omega
 have hxd:x / Mp≤589824:=Nat.le_trans (Nat.div_le_self _ _) hxs
 have hxe:x / Mp / N≤589824:=Nat.le_trans (Nat.div_le_self _ _) hxd
 have hN1:¬ (N=0):=by omega
 have hM1:¬ (Mp=0):=by omega
 have hmulu:aGo a (x / Mp % N) l*Mp≤12*12:=Nat.mul_le_mul (by omega) (by omega)
 obtain⟨rest,hrest⟩:∃ z:Nat,Hid (aGo a (x / Mp % N) l*Mp+aGo p (x % Mp) l=z):=⟨_,rfl⟩
 obtain⟨um,hum⟩:∃ z:Nat,Hid (aGo a (x / Mp % N) l*Mp=z):=⟨_,rfl⟩
 have hummi:((aGo a (x / Mp % N) l:Nat):Int)*(Mp:Int)=(um:Int):=by rw [← hum.out];exact (Int.natCast_mul _ Mp).symm
 rw [hum.out] at hmulu
 have hrest2:rest=um+aGo p (x % Mp) l:=by rw [← hrest.out,hum.out]
 have Hrest2:=za hrest2
 clear hrest2
 rw [hrest.out] at hDe
 generalize aGo a (x / Mp % N) l=au at *
 generalize aGo p (x % Mp) l=ap at *
 generalize x / Mp % N=q1 at *
 generalize x % Mp=q2 at *
 generalize hxE:x / Mp / N=xe at *
 have HxE:=za hxE
 clear hxE
 generalize x / Mp=xd at *
 clear hgu hgp hrest hum
 have hq1:(q1:Int)<(N:Int):=by omega
 have hq2:(q2:Int)<(Mp:Int):=by omega
 have hli:(l:Int)<6:=by omega
 have K10:∀ W,Ext w0 W→∀ i,W.cell? ⟨g10,i,none⟩=#[Value.slice (some ⟨ug,uo,none⟩) N uc][i]?:=fun W hW=>by have:=(HC.out W hW).h10.cell;rw [hN.out] at this;exact this
 have K11:∀ W,Ext w0 W→∀ i,W.cell? ⟨g11,i,none⟩=#[Value.slice (some ⟨rg,ro,none⟩) Mp rc][i]?:=fun W hW=>by have:=(HC.out W hW).h11.cell;rw [hMp.out] at this;exact this
 have K12:∀ W,Ext w0 W→∀ i,W.cell? ⟨g12,i,none⟩=#[Value.int .i64 (N:Nat)][i]?:=fun W hW=>by have:=(HC.out W hW).h12.cell;rw [hN.out] at this;exact this
 have K13:∀ W,Ext w0 W→∀ i,W.cell? ⟨g13,i,none⟩=#[Value.int .i64 (Mp:Nat)][i]?:=fun W hW=>by have:=(HC.out W hW).h13.cell;rw [hMp.out] at this;exact this
 have K8:∀ W,Ext w0 W→∀ i,W.cell? ⟨g8,i,none⟩=#[Value.slice A k c,Value.slice M k dm][i]?:=fun W hW=>(HC.out W hW).h8.cell
 have Hk:=za (And.intro K10 (And.intro K11 (And.intro K12 (And.intro K13 K8))))
 have Hcc:=za (And.intro hcu hcr)
 have hxsl:xs.length=m:=by have:=own_len zep;simp [zF] at this;omega
 have Hxsl:=za hxsl
 clear K10 K11 K12 K13 K8 hcu hcr hxsl
 have hR16:=za (show (nx ss xe l).1.length≤4096 from Nat.le_trans hnxl.out (by
  obtain hh:=(Hpt.out w hw).sys.1
  calc 16 ^ ss.length≤16 ^ 3:=Nat.pow_le_pow_right (by omega) (by omega)
   _=4096:=by decide))
 have CN:=za (fun W (hW:Ext w W)=>impl_next (c:=c) (d:=dm) (m:=xe) (l:=l) (v:=.slice Ao m c0) (n:=m) (xs:=zF xs) (base:=base) (Hpt.out W (hw.trans hW)) Hs.out (by omega) (by omega) hl (HT.out W (hw.trans hW)) (zm zep hW) (Nat.le_trans hb hW.size) hm)
 have hrl:rest≤1000:=by have:=Hrest2.out;omega
 have hrsti:(um:Int)+(ap:Int)=(rest:Int):=by have:=Hrest2.out;omega
 generalize (nx ss xe l).1=R at *
 have hob:=za (fun b (hb':(Value.slice Ao m c0).ownBlock=some b)=>(zep.lt b hb').1)
 clear hnxl HxE zep
 have hk10:=fun W (hW:Ext w W)=>Hk.out.1 W (hw.trans hW)
 have hk11:=fun W (hW:Ext w W)=>Hk.out.2.1 W (hw.trans hW)
 have hk12:=fun W (hW:Ext w W)=>Hk.out.2.2.1 W (hw.trans hW)
 have hk13:=fun W (hW:Ext w W)=>Hk.out.2.2.2.1 W (hw.trans hW)
 have hk8:=fun W (hW:Ext w W)=>Hk.out.2.2.2.2 W (hw.trans hW)
 have hcu:=fun W (hW:Ext w W)=>Hcc.out.1 W (hw.trans hW)
 have hcr:=fun W (hW:Ext w W)=>Hcc.out.2 W (hw.trans hW)
 have hww:=Ext.refl w
 go_enter Tryd.func126,Tryd.ntmps126
 go_upto_region 1 with fail
 go_cut [12] (fun v wx=>v=.int .i64 (rest:Nat)∧Ext w wx)
 case first =>
  have k10:=hk10 w hww
  have k11:=hk11 w hww
  have k12:=hk12 w hww
  have k13:=hk13 w hww
  have kcu:=hcu w hww
  have kcr:=hcr w hww
  go_quiet (fail)
  go_wp2_with fail
  go_meet
  exact⟨by go_num,hww.drewN _⟩
 case rest =>
  obtain⟨rfl,hxc⟩:=hcut
  clear hcu hcr hk10 hk11
  replace hk8:=fun W (hW:Ext wc W)=>hk8 W (hxc.trans hW)
  replace hk12:=fun W (hW:Ext wc W)=>hk12 W (hxc.trans hW)
  replace hk13:=fun W (hW:Ext wc W)=>hk13 W (hxc.trans hW)
  have hwc:=Ext.refl wc
  go_upto_region 3 with fail
  refine uR (fun X=>Ext wc X) [8] (zE.of [0,1,2,3,4,5,6,7,8,9]) ?_
  refine uQ ?_
  refine zb fun K hK=>?_
  go_simp
  have hqx:IntKind.i64.wrap ((IntKind.i64.wrap (xd:Int)).tdiv (N:Int))=(xe:Int):=by
   rw [wrapN xd (by omega),Int.tdiv_eq_ediv_of_nonneg (by omega),hdv2,wrapN xe (by omega)]
  rw [hqx]
  refine (CN.out _ (hxc.trans hwc.drew)).mono ?_
  rintro e w5 ⟨v',rfl,zew,hfr5,hob5⟩
  refine hK.out _ _ ?_
  refine pT ?_
  refine uQ ?_
  refine zh ?_
  rw [show zF xs++zF R=zF (xs++(R.take 0).map (fun y=>y*N*Mp+rest)++R.drop 0) by simp [zF]] at zew
  have hl5:(zF xs).length=m:=by rw [← Hxsl.out];simp [zF]
  rw [hl5] at zew
  obtain⟨A5,c5,rfl⟩:=zl zew
  have hfr:Frm (fun b=>(Value.slice Ao m c0).ownBlock=some b) w w5:=((hxc.trans hwc.drew).toFrm).trans (hfr5.mono fun _ _ h=>h)
  have hgrow:Ext w0 w5:=(hw.toFrm.trans (hfr.mono fun b hb1 hb2=>hb2)).mono (T:=fun _=>False) (fun b hb1 hb2=>by have:=hob.out b hb2;omega)
  have hobx:∀ b,(Value.slice A5 (m+R.length) c5).ownBlock=some b→(Value.slice Ao m c0).ownBlock=some b∨w.heap.size≤b:=fun b hb'=>by
   rcases hob5 with h1|⟨b',h1,h2⟩
   ·rw [h1] at hb';exact Or.inl hb'
   ·rw [h1] at hb'
    have:=Option.some.inj hb'
    have:=(hxc.trans hwc.drew).size
    exact Or.inr (by omega)
  have Hobx:=za hobx
  clear hob5 hobx hk8 hfr5 hk12 hk13 hwc
  have Hx:=za (fun (W:World) (hW:Frm (fun b=>(Value.slice Ao m c0).ownBlock=some b) w W)=>show Ext w0 W from (hw.toFrm.trans (hW.mono fun b _ h=>h)).mono (T:=fun _=>False) (fun b hb1 hb2=>by have:=hob.out b hb2;omega))
  have hmR:m+R.length≤1099511627776+4096:=by have:=hR16.out;omega
  obtain⟨Z,hZ⟩:∃ Z,Hid (m+R.length=Z):=⟨_,rfl⟩
  rw [hZ.out] at hmR zew
  rw [hZ.out] at Hobx
  rw [hZ.out]
  go_wp2_with fail
  go_loopw [14] (fun i wr=>∃ i' j:Nat,i=.int .i64 (i':Nat)∧Hid (i'=m+j)∧j≤R.length∧wr.ownsRow base 3 1 (.slice A5 Z c5) Z (zF (xs++(R.take j).map (fun y=>y*N*Mp+rest)++R.drop j))∧Frm (fun b=>(Value.slice Ao m c0).ownBlock=some b) w wr) (fun i _=>Z - (intOf i).toNat)
  case atStart=>exact⟨m,0,rfl,rfl,Nat.zero_le _,zew,hfr⟩
  case round =>
   clear zew hfr hgrow
   obtain⟨i,j,rfl,hi,hj,zep,hfr⟩:=hrel
   by_cases hlt:j<R.length
   ·obtain⟨y,hy⟩:∃ y,Hid (R[j]?=some y):=⟨_,za (List.getElem?_eq_getElem hlt)⟩
    have hlty:=Hlt.out (y*N*Mp+rest) (by rw [hDe.out];exact List.mem_map.2 ⟨y,List.mem_of_getElem? hy.out,rfl⟩)
    have hx0:=Hx.out wr hfr
    have hiZ:i<Z:=by have:=hi.out;have:=hZ.out;omega
    obtain⟨g5,rfl⟩:∃ g,A5=some ⟨g,0,none⟩:=by
     rcases zep.2 with ⟨h1,h2⟩|⟨g,cap,cur,h1,_⟩
     ·injection h1;omega
     ·injection h1 with h1;exact⟨g,h1⟩
    have hmg:=za (mix_get (xs:=xs) (f:=fun y=>y*N*Mp+rest) hy.out)
    have hcy:wr.cell? ⟨g5,i,none⟩=some (.int .i64 (y:Nat)):=by
     have:=zep.cellAt i (by omega)
     rw [this,← hmg.out,Hxsl.out,hi.out]
    have hms:=mix_set (xs:=xs) (f:=fun y=>y*N*Mp+rest) hy.out
    rw [Hxsl.out,← hi.out] at hms
    have k12:∀ W,Ext wr W→∀ i,W.cell? ⟨g12,i,none⟩=#[Value.int .i64 (N:Nat)][i]?:=fun W hW=>Hk.out.2.2.1 W (hx0.trans hW)
    have k13:∀ W,Ext wr W→∀ i,W.cell? ⟨g13,i,none⟩=#[Value.int .i64 (Mp:Nat)][i]?:=fun W hW=>Hk.out.2.2.2.1 W (hx0.trans hW)
    have CY:∀ W,Ext wr W→W.cell? ⟨g5,i,none⟩=some (.int .i64 (y:Nat)):=fun W hW=>hW.cell_some hcy
    have hyN:y*N≤y*N*Mp:=Nat.le_mul_of_pos_right _ p1
    obtain⟨yn,hyn⟩:∃ z:Nat,Hid (y*N=z):=⟨_,rfl⟩
    have hyni:(y:Int)*(N:Int)=(yn:Int):=by rw [← hyn.out];exact (Int.natCast_mul y N).symm
    rw [hyn.out] at hlty hms hyN
    obtain⟨ym,hym⟩:∃ z:Nat,Hid (yn*Mp=z):=⟨_,rfl⟩
    have hymi:(yn:Int)*(Mp:Int)=(ym:Int):=by rw [← hym.out];exact (Int.natCast_mul yn Mp).symm
    rw [hym.out] at hlty hms hyN
    have hyr:y≤y*N:=Nat.le_mul_of_pos_right _ a1
    rw [hyn.out] at hyr
    have hiZi:(i:Int)<(Z:Int):=by omega
    have hw1:IntKind.i64.wrap (yn:Int)=(yn:Int):=wrapN yn (by omega)
    have hw2:IntKind.i64.wrap (ym:Int)=(ym:Int):=wrapN ym (by omega)
    have hw3:IntKind.i64.wrap ((ym:Int)+(rest:Int))=((ym+rest:Nat):Int):=by rw [← Int.natCast_add];exact wrapN (ym+rest) (by omega)
    have hww:=Ext.refl wr
    clear hcy hx0
    go_upto_region 7 with fail
    refine uR (fun X=>Ext wr X) [13] (zE.of [0,1,2,3,4,5,6,7,8,9,10,11,12,13]) ?_
    refine uQ ?_
    have zet:=zm zep hww.drew
    have hfr1:=hfr.ext hww.drew
    clear zep hfr k12 k13 CY hww
    generalize wr.drew=wd at *
    obtain⟨o0,g0⟩:=zav zet i (by omega)
    have f0:=zet.frozenAt i
    have hss:=zet.stored i (.int .i64 ((ym+rest:Nat):Int))
    rw [hms] at hss
    have hown':=hss.1
    have hfr':Frm (fun b=>(Value.slice Ao m c0).ownBlock=some b) w (wd.setCell ⟨g5,i,none⟩ (.int .i64 ((ym+rest:Nat):Int))):=by
     rcases Hobx.out g5 rfl with h1|h1
     ·exact hfr1.cell (p:=⟨g5,i,none⟩) h1 _
     ·have h2:Frm (fun b=>(Value.slice Ao m c0).ownBlock=some b∨b=g5) w (wd.setCell ⟨g5,i,none⟩ (.int .i64 ((ym+rest:Nat):Int))):=(hfr1.mono fun _ _ h=>Or.inl h).trans ((Frm.setCell wd g5 i _).mono fun _ _ h=>Or.inr h)
      exact h2.mono fun b hb h=>h.elim id (fun e=>by omega)
    clear hss hms zet
    have hi1:=za (show i+1=m+(j+1) by rw [hi.out];omega)
    refine zb fun K hK=>?_
    go_simp
    refine hK.out _ _ ?_
    refine zh ?_
    first|rw [hw3]|skip
    go_wp2_with fail
    go_roundw
    case rel=>exact⟨i+1,j+1,by go_num,hi1,by omega,hown',hfr'⟩
    case measure=>simp [intOf];omega
   ·obtain rfl:j=R.length:=by omega
    have zes:=za (show wr.ownsRow base 3 1 (.slice A5 (xs++zbB ss a p x l).length c5) (xs++zbB ss a p x l).length (zF (xs++zbB ss a p x l)) by
     rw [hDe.out,List.length_append,List.length_map,Hxsl.out,hZ.out]
     rw [List.take_length,List.drop_length,List.append_nil] at zep
     exact zep)
    have hlen:(xs++zbB ss a p x l).length=Z:=by rw [hDe.out,List.length_append,List.length_map,Hxsl.out,hZ.out]
    have hres:=za (show RetBrk w base (.slice Ao m c0) (xs++zbB ss a p x l) (.returned (.slice A5 Z c5)) wr from ⟨A5,c5,by rw [hlen],zes.out,hfr⟩)
    clear hlen
    have hiZi:¬ (i:Int)<(Z:Int):=by have:=hi.out;have:=hZ.out;omega
    clear zep
    go_wp2
    go_ret
    exact hres.out
theorem areParts_1 {lo hi:Nat} {A:Option Addr} {n c:Nat} {s:Sys} {w:World}(h:zQ w lo hi A n s) :
  Calls Tryd.prog 108 #[.agg #[.int .i64 s.al,.int .i64 s.st,.slice A n c]] w fun e w'=>e=.returned (.bool (!zk s))∧Ext w w':=by
 go_enter Tryd.func108,Tryd.ntmps108
 go_wp2_with (go_at_call 64;refine (zR (h.ext ?_)).mono ?_;exact (Ext.refl _).alloc _;rintro e w' ⟨rfl,hx⟩)
 go_ret
 exact⟨rfl,((Ext.refl _).alloc _).trans hx⟩
theorem zdd {lo hi:Nat} {A:Option Addr} {n c:Nat} {ss:List Sys} {w:World}(h:SLAt w lo hi A n ss) :
  Calls Tryd.prog 131 #[.slice A n c,.func (.func 108) #[] #[]] w fun e w'=>∃ r:Int,e=.returned (.int .i64 r)∧decide (0≤r)=ss.any (fun s=>!zk s) ∧ -1≤r∧Ext w w':=by
 have hn:=h.len
 have hL:=za h.1
 go_enter Tryd.func131,Tryd.ntmps131
 go_wp2
 go_loopw [8] (fun i wr=>∃ k:Nat,k≤n∧i=.int .i64 k∧Hid ((ss.take k).any (fun s=>!zk s)=false)∧Ext w wr) (fun i _=>n - (intOf i).toNat)
 case atStart=>exact⟨0,Nat.zero_le _,rfl,rfl,Ext.refl _⟩
 case round =>
  obtain⟨k,hk,rfl,hany,zer⟩:=hrel
  by_cases hlt:k<n
  ·obtain⟨b,o,s,B,q,d,rfl,hlo,hhi,hs,c0,c1,c2,hsy⟩:=(h.ext zer).sys hlt
   cases hb:zk s
   all_goals
    have Hb:=za hb
    clear hb
    go_wp2_with (go_at_call 108;refine (areParts_1 hsy).mono ?_;rw [Hb.out];rintro e w' ⟨rfl,hx⟩)
   ·go_ret
    exact⟨k,rfl,by rw [List.any_eq_true.2 ⟨s,List.mem_of_getElem? hs.out,by rw [Hb.out];rfl⟩];simp,by omega,zer.trans hx⟩
   ·go_roundw
    case rel=>exact⟨k+1,by omega,by go_num,by unfold Hid;rw [List.take_add_one,hs.out,List.any_append,hany.out];simp [Hb.out],zer.trans hx⟩
    case measure=>simp [intOf];omega
  ·obtain rfl:k=n:=by omega
   go_wp2
   go_ret
   have:=hany.out
   rw [hL.out,List.take_length] at this
   exact⟨-1,rfl,by rw [this];decide,by omega,zer⟩
theorem zcd {lo hi:Nat} {A:Option Addr} {n c:Nat} {ss:List Sys} {w:World}(h:SLAt w lo hi A n ss) :
  Calls Tryd.prog 107 #[.slice A n c,.func (.func 108) #[] #[]] w fun e w'=>e=.returned (.bool (ss.any (fun s=>!zk s)))∧Ext w w':=by
 go_enter Tryd.func107,Tryd.ntmps107
 cases hb:ss.any (fun s=>!zk s)
 all_goals
  have Hb:=za hb
  clear hb
  go_wp2_with (go_at_call 131;refine (zdd h).mono ?_;rw [Hb.out];rintro e w' ⟨r,rfl,hr,hr1,hx⟩)
  go_ret
  exact⟨zf (by have hr':=hr;simp at hr';simp<;>omega),hx⟩
def zH (ss:List Sys):Bool:=decide (1≤ss.length)&&(decide (ss.length≤3)&&ss.all zk)
theorem zap {lo hi:Nat} {A:Option Addr} {n c:Nat} {ss:List Sys} {w:World}(h:SLAt w lo hi A n ss) :
  Calls Tryd.prog 72 #[.slice A n c] w fun e w'=>e=.returned (.bool (zH ss))∧Ext w w':=by
 have hn:=h.len
 have hL:=za h.1
 have hA:ss.any (fun s=>!zk s)=!ss.all zk:=by rw [Bool.eq_iff_iff];simp
 have HA:=za hA
 clear hA
 by_cases h1:1≤n
 ·by_cases h3:n≤3
  ·go_enter Tryd.func72,Tryd.ntmps72
   go_wp2_with (go_at_call 107;refine (zcd h).mono ?_;rw [HA.out];rintro e w' ⟨rfl,hx⟩)
   go_ret
   exact⟨zf (by have:=hL.out;unfold zH;rw [decide_eq_true (by omega),decide_eq_true (by omega)];simp),hx⟩
  ·go_enter Tryd.func72,Tryd.ntmps72
   go_wp2
   go_ret
   exact⟨zf (by have:=hL.out;unfold zH;rw [decide_eq_false (by omega:¬ ss.length≤3)];simp),Ext.refl _⟩
 ·go_enter Tryd.func72,Tryd.ntmps72
  go_wp2
  go_ret
  exact⟨zf (by have:=hL.out;unfold zH;rw [decide_eq_false (by omega:¬ 1≤ss.length)];simp),Ext.refl _⟩
theorem zay (lo hi:Nat) (A:Option Addr) (n c:Nat) (A':Option Addr) (n' c':Nat) (a:Aut) (w:World)(h:zaS w lo hi A n A' n' a) :
  Calls Tryd.prog 45 #[.agg #[.int .i64 a.al,.slice A n c,.slice A' n' c']] w fun e w'=>e=.returned (.bool (zx a))∧Ext w w':=by
 have h1:=h.n1
 have h2:=h.n2
 have Hv:=za (show zx a=(decide (0≤a.al∧a.al≤63)&&(decide (1≤n∧n≤12)&&(decide (n'=n)&&a.next.all (rowB (letters a.al.toNat 6).length n)))) by unfold zx;rw [← h1,← h2])
 have hl1:=h.1.len
 have hl2:=h.2.2.len
 clear h1 h2
 by_cases hal:0≤a.al∧a.al≤63
 ·have hd:=za (show decide (0≤a.al∧a.al≤63)=true by simp;omega)
  by_cases hn:1≤n∧n≤12
  ·have hd1:decide ((n:Int)<1)=false:=by simp;omega
   have hd2:decide (12<(n:Int))=false:=by simp;omega
   by_cases hn':n'=n
   ·subst hn'
    obtain⟨al,hal'⟩:∃ al:Nat,Hid (a.al=al):=⟨a.al.toNat,by unfold Hid;omega⟩
    have hsm:Sm al:=by have:=hal'.out;unfold Sm;omega
    have hll:=zn al 6
    rw [hal'.out]
    rw [hal'.out] at hd
    rw [hal'.out,Int.toNat_natCast] at Hv
    clear hal
    have hR:=fun W (hW:Ext w W)=>h.1.ext hW
    have HR:=za hR
    clear hR
    go_enter Tryd.func45,Tryd.ntmps45
    go_wp2_with (first
     |(go_at_call 80;refine (zM _ _).mono ?_;rw [hd.out];rintro e w' ⟨rfl,rfl⟩)
     |(go_at_call 81;refine (zaY _ hsm _).mono ?_;rintro e w2 ⟨A2,c2,rfl,zeu,hext2⟩;have hbox2:=zbN hext2))
    go_loopw [40] (fun i wr=>∃ k:Nat,k≤n'∧i=.int .i64 k∧Hid ((a.next.take k).all (rowB (letters al 6).length n')=true)∧Ext w2 wr)
     (fun i _=>n' - (intOf i).toNat)
    case atStart=>exact⟨0,Nat.zero_le _,rfl,rfl,Ext.refl _⟩
    case round =>
     obtain⟨k,hk,rfl,hall,zer⟩:=hrel
     have hbox:∀ W,Ext wr W→∀ j,W.cell? ⟨w.heap.size,j,none⟩=#[Value.int .i64 al,Value.slice A n' c,Value.slice A' n' c'][j]?:=fun W hW=>zbN ((hext2.trans zer).trans hW)
     have hwr:=Ext.refl wr
     clear hbox2
     have zes:Ext w wr:=(((Ext.refl _).alloc _).trans hext2).trans zer
     by_cases hlt:k<n'
     ·obtain⟨ad,Ak,ck,l,rfl,hlo,hhi,hl,hcell,hrk⟩:=(HR.out wr zes).row hlt
      by_cases hlk:l.length=(letters al 6).length
      ·obtain⟨m,hm⟩:∃ m,Hid ((letters al 6).length=m):=⟨_,rfl⟩
       have hlm:Hid (l.length=m):=by have:=hm.out;unfold Hid;omega
       rw [hm.out] at hll ⊢
       rw [hm.out] at hall Hv
       rw [hlm.out] at hcell hrk
       clear hlk
       go_wp2_with fail
       go_loop [50] (fun i=>∃ j:Nat,j≤m∧i=.int .i64 j∧Hid ((l.take j).all (fun q=>decide (0≤q∧q<n'))=true)) (fun i=>m - (intOf i).toNat)
       case atStart=>exact⟨0,Nat.zero_le _,rfl,rfl⟩
       case round =>
        obtain⟨j,hj,rfl,hallj⟩:=hrel
        by_cases hltj:j<m
        ·obtain⟨ad2,x,rfl,_,_,hx,hcell2⟩:=hrk.int hltj
         by_cases h0:x<0
         ·go_wp2
          go_ret
          exact⟨zf (by rw [Hv.out,zat hl.out (by rw [rowB,zat hx.out (by simp;omega),Bool.and_false])];simp),zes⟩
         ·by_cases h1:(n':Int)≤x
          ·go_wp2
           go_ret
           exact⟨zf (by rw [Hv.out,zat hl.out (by rw [rowB,zat hx.out (by simp;omega),Bool.and_false])];simp),zes⟩
          ·go_wp2
           go_round
           case rel=>exact⟨j+1,by omega,by go_num,zbA hx.out hallj.out (by simp;omega)⟩
           case measure=>simp [intOf];omega
        ·obtain rfl:j=m:=by omega
         go_wp2
         go_roundw
         case rel=>exact⟨k+1,by omega,by go_num,zbA hl.out hall.out (by rw [rowB,zdU (by have:=hlm.out;omega) hallj.out,hlm.out];simp),zer⟩
         case measure=>simp [intOf];omega
      ·have hne:((l.length:Int) != ((letters al 6).length:Int))=true:=by simp;omega
       go_wp2
       go_ret
       exact⟨zf (by rw [Hv.out,zat hl.out (by simp [rowB,hlk])];simp),zes⟩
     ·obtain rfl:k=n':=by omega
      go_wp2
      go_ret
      exact⟨zf (by rw [Hv.out,zdU (by have:=h.n1;omega) hall.out,hd.out];simp;omega),zes⟩
   ·have hne:((n':Int) != (n:Int))=true:=by simp;omega
    go_enter Tryd.func45,Tryd.ntmps45
    go_wp2_with (go_at_call 80;refine (zM _ _).mono ?_;rw [hd.out];rintro e w' ⟨rfl,rfl⟩)
    go_ret
    exact⟨zf (by rw [Hv.out];simp [hn']),(Ext.refl _).alloc _⟩
  ·go_enter Tryd.func45,Tryd.ntmps45
   go_wp2_with (go_at_call 80;refine (zM _ _).mono ?_;rw [hd.out];rintro e w' ⟨rfl,rfl⟩)
   all_goals go_ret
   all_goals exact⟨zf (by rw [Hv.out];simp [hn]),(Ext.refl _).alloc _⟩
 ·go_enter Tryd.func45,Tryd.ntmps45
  have hd:decide (0≤a.al∧a.al≤63)=false:=by simp;omega
  go_wp2_with (go_at_call 80;refine (zM _ _).mono ?_;rw [hd];rintro e w' ⟨rfl,rfl⟩)
  go_ret
  exact⟨zf (by rw [Hv.out];simp;omega),(Ext.refl _).alloc _⟩
def zaq (ss:List Sys):Nat:=ss.foldl (fun a s=>a|||s.al.toNat) 0
theorem zdv {ss:List Sys} {k:Nat} {s:Sys}(h:ss[k]?=some s):zaq (ss.take (k+1))=zaq (ss.take k)|||s.al.toNat:=by
 rw [List.take_add_one,h]
 simp [zaq]
theorem zdt {s:Sys}(h:zk s=true):0≤s.al∧s.al≤63:=by
 simp only [zk,Bool.and_eq_true,decide_eq_true_eq] at h
 exact h.1
def zcH (ss:List Sys):Int:=if zH ss then (zaq ss:Int) else -1
theorem zch {lo hi:Nat} {A:Option Addr} {n c:Nat} {ss:List Sys} {w:World}(h:SLAt w lo hi A n ss) :
  Calls Tryd.prog 124 #[.slice A n c] w fun e w'=>e=.returned (.int .i64 (zcH ss))∧Ext w w':=by
 have hn:=h.len
 have hL:=za h.1
 have HS:=za (fun W (hW:Ext w W)=>h.ext hW)
 clear h
 cases hp:zH ss
 ·have Hp:=za hp
  have hr:=za (show zcH ss = -1 by unfold zcH;rw [hp];rfl)
  clear hp
  go_enter Tryd.func124,Tryd.ntmps124
  go_wp2_with (go_at_call 72;refine (zap (HS.out _ (Ext.refl _))).mono ?_;rw [Hp.out];rintro e w1 ⟨rfl,hx⟩)
  go_ret
  exact⟨zaO (by rw [hr.out]),hx⟩
 ·have Hp:=za hp
  have hr:=za (show zcH ss=(zaq ss:Int) by unfold zcH;rw [hp];rfl)
  have hv:=za (show ∀ s∈ss,zk s=true by
   unfold zH at hp
   simp only [Bool.and_eq_true,List.all_eq_true] at hp
   exact hp.2.2)
  clear hp
  go_enter Tryd.func124,Tryd.ntmps124
  go_wp2_with (go_at_call 72;refine (zap (HS.out _ (Ext.refl _))).mono ?_;rw [Hp.out];rintro e w1 ⟨rfl,hx⟩)
  go_loopw [3,5,11] (fun v _ i wr=>∃ k u:Nat,k≤n∧i=.int .i64 k∧v=.int .i64 u∧u≤63∧Hid (u=zaq (ss.take k))∧Ext w wr) (fun _ _ i _=>n - (intOf i).toNat)
  case atStart=>exact⟨0,0,Nat.zero_le _,rfl,rfl,by omega,rfl,hx⟩
  case round =>
   clear hx
   obtain⟨k,u,hk,rfl,rfl,hu,huA,hx⟩:=hrel
   by_cases hlt:k<n
   ·obtain⟨b,o,s,B,q,d,rfl,_,_,hs,c0,c1,c2,_⟩:=(HS.out wr hx).sys hlt
    obtain⟨ha0,ha1⟩:=zdt (hv.out s (List.mem_of_getElem? hs.out))
    obtain⟨al,hal⟩:∃ al:Nat,Hid (s.al=al):=⟨s.al.toNat,by unfold Hid;omega⟩
    rw [hal.out] at c0 ha0 ha1
    have Hu:=za (show zaq (ss.take (k+1))=u|||al by rw [zdv hs.out,hal.out,Int.toNat_natCast,huA.out])
    have Ho:=za (zcw (a:=u) (b:=al) (by unfold Sm;omega) (by unfold Sm;omega))
    have hlt2:u|||al≤63:=by have:=Nat.or_lt_two_pow (n:=6) (x:=u) (y:=al) (by omega) (by omega);omega
    have ho:=Ho.out
    clear huA
    go_wp2_with fail
    go_roundw
    case rel=>exact⟨k+1,u|||al,by omega,by go_num,by first|rfl|rw [Ho.out],hlt2,Hu.out.symm,by first|exact hx.alloc _|exact (hx.alloc _).drew⟩
    case measure=>simp [intOf];omega
   ·obtain rfl:n=k:=by omega
    have zes:=za (show zcH ss=(u:Int) by rw [hr.out,huA.out,List.take_of_length_le (by have:=hL.out;omega)])
    go_wp2
    go_ret
    exact⟨zaO (by rw [zes.out]),hx⟩
def zbX (a p:Aut) (x:Nat):Bool:=accB a (x / p.next.length % a.next.length)&&!accB p (x % p.next.length)
noncomputable def lostB (d:Nat→Nat→List Nat) (start:List Nat) (goal:Nat→Bool) (L:List Nat):Bool:=@decide (Lost d start goal L) (Classical.propDecidable _)
noncomputable def zdM (d:Nat→Nat→List Nat) (start:List Nat) (goal:Nat→Bool) (L:List Nat):List Nat:=@dite _ (∃ v,Found d start goal L v) (Classical.propDecidable _) (fun h=>Classical.choose h) (fun _=>[])
section
variable {d:Nat→Nat→List Nat} {start L:List Nat} {goal:Nat→Bool}
theorem found_uniq (h6:∀ l∈L,l<6) {u v:List Nat}(hu:Found d start goal L u)(hv:Found d start goal L v):u=v:=by
 obtain⟨u1,⟨x,u2,u3⟩,u4⟩:=hu
 obtain⟨v1,⟨y,v2,v3⟩,v4⟩:=hv
 have h1:¬ zbY u<zbY v:=fun h=>by
  have:=v4 u u1 h x u2
  rw [u3] at this;cases this
 have h2:¬ zbY v<zbY u:=fun h=>by
  have:=u4 v v1 h y v2
  rw [v3] at this;cases this
 exact wval_inj _ u v (Nat.le_refl _) (fun l hl=>h6 l (u1 l hl)) (fun l hl=>h6 l (v1 l hl)) (by omega)
theorem found_first (h6:∀ l∈L,l<6) {v:List Nat}(h:Found d start goal L v):zdM d start goal L=v∧lostB d start goal L=false:=by
 constructor
 ·unfold zdM
  rw [@dif_pos _ (Classical.propDecidable _) ⟨v,h⟩]
  exact found_uniq h6 (Classical.choose_spec (⟨v,h⟩:∃ v,Found d start goal L v)) h
 ·refine @decide_eq_false _ (Classical.propDecidable _) fun hl=>?_
  obtain⟨h1,⟨x,h2,h3⟩,_⟩:=h
  have:=hl v h1 x h2
  rw [h3] at this;cases this
theorem lost_first (h:Lost d start goal L):zdM d start goal L=[]∧lostB d start goal L=true:=by
 constructor
 ·unfold zdM
  rw [@dif_neg _ (Classical.propDecidable _)]
  rintro ⟨v,h1,⟨x,h2,h3⟩,_⟩
  have:=h v h1 x h2
  rw [h3] at this;cases this
 ·exact @decide_eq_true _ (Classical.propDecidable _) h
theorem zY.first {w:World} {e:Ending} {w':World}(h:zY w d start goal L e w')(h6:∀ l∈L,l<6):e=.returned (.tuple #[.string (wstr (zdM d start goal L)),.bool (!lostB d start goal L)])∧Ext w w':=by
 obtain⟨hx,⟨v,rfl,hF⟩|⟨rfl,hL⟩⟩:=h
 ·obtain⟨h1,h2⟩:=found_first h6 hF
  rw [h1,h2]
  exact⟨rfl,hx⟩
 ·obtain⟨h1,h2⟩:=lost_first hL
  rw [h1,h2]
  exact⟨rfl,hx⟩
end
noncomputable def vioW (ss:List Sys) (a p:Aut):ByteArray:=wstr (zdM (zbB ss a p) [0] (zbX a p) (letters (zaq ss|||a.al.toNat) 6))
noncomputable def vioB (ss:List Sys) (a p:Aut):Bool:=!lostB (zbB ss a p) [0] (zbX a p) (letters (zaq ss|||a.al.toNat) 6)
theorem zbQ (a:Nat):∀ l∈letters a 6,l<6:=fun _ hl=>(zac.1 hl).1
theorem sl_one {w:World} {g lo hi n c:Nat} {B:Option Addr} {s:Sys}(hb:Blk w g 39 #[.int .i64 s.al,.int .i64 s.st,.slice B n c])(h:zQ w lo hi B n s):∃ lo hi,SLAt w lo hi (some ⟨g,0,none⟩) 1 [s]:=by
 refine⟨0,hi+g+1,rfl,[.int .i64 s.al,.int .i64 s.st,.slice B n c],⟨rfl,by omega,fun _=>⟨_,rfl,Nat.zero_le _,by dsimp only;omega,fun j u hu=>?_⟩⟩,fun k t ht=>?_⟩
 ·rw [zP,Nat.zero_add,hb.cell]
  simpa using hu
 ·cases k with
  |zero =>
   simp at ht;subst ht
   exact⟨B,n,c,rfl,rfl,rfl,h.1,h.2.more (Nat.zero_le _) (by omega)⟩
  |succ k=>simp at ht
theorem zdj {ss:List Sys}(h:zH ss=true):(1≤ss.length∧ss.length≤3)∧∀ s∈ss,zk s=true:=by
 unfold zH at h
 simp only [Bool.and_eq_true,decide_eq_true_eq,List.all_eq_true] at h
 exact⟨⟨h.1,h.2.1⟩,h.2.2⟩
def zcj (ss:List Sys) (p:Aut):Bool:=zH ss&&zx p
noncomputable def zda (ss:List Sys) (p:Aut):Bool:=zcj ss p&&vioB ss free p
noncomputable def brokW (ss:List Sys) (p:Aut):ByteArray:=if zcj ss p=true then vioW ss free p else ByteArray.empty
noncomputable def zci (ss:List Sys) (p:Aut):Bool:=zcj ss p&&!vioB ss free p
theorem brokB_keeps (ss:List Sys) (p:Aut):zci ss p=(zcj ss p&&!zda ss p):=by unfold zci zda;cases zcj ss p<;>simp
end Go.Proofs.YtfcjhpodichpjaaDoor
