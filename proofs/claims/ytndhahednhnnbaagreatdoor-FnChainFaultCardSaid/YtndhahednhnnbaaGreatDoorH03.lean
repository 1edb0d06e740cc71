/- impl.firstPath's closure (a visit of some nodes), walked. | impl.firstPath's closure (a visit of some nodes), walked. | slices.Reverse at bytes, walked. | impl.letterByte; slices.Reverse at no byte. | impl.firstPath, walked. | impl.FirstTraceOutside, walked: a search through pairs of a state and a set of states. | Plain: the quotient of a system by its greatest relation. No program in sight. | spec.l4Choices and spec.l4Nexts, walked. | spec.l4Nexts, walked. | spec.l4Moves, walked. | Plain: distances to a goal, and the word that is found by going closer at every letter: it is the first word -/
import Derived.Deep.DeepCutAuto
import Derived.Test.YtndhahednhnnbaaGreatDoorH01
import Derived.Test.YtndhahednhnnbaaGreatDoorH02
import Derived.Shelf.RegionOpenPlain
import Derived.Deep.LoopGhost
import Derived.Sort.WalkB12
import Derived.Lib.SlicesMore
import Derived.Laws.BytesArg
import Derived.IntWalk
namespace Go.Proofs.YtndhahednhnnbaaGreatDoor
open Go Go.RowKit
set_option maxHeartbeats 2000000
def zae (w:World) (A:Option Addr) (m:Nat) (l:List Nat):Prop:=
 m=l.length∧m≤9223372036854775807∧(0<m→∃ (g o:Nat) (cs:Array Value),A=some ⟨g,o,none⟩∧w.heap[g]?=some (.cells cs 3 (0,0))∧∀ j x,l[j]?=some x→w.cell? ⟨g,o+j,none⟩=some (.int .i64 (x:Nat)))
theorem zae.frm {S:Nat→Prop} {w w':World} {A:Option Addr} {m:Nat} {l:List Nat}(h:zae w A m l)(hb:Frm S w w')(hS:∀ k,S k→∀ cs,w.heap[k]?≠some (.cells cs 3 (0,0))):zae w' A m l:=by
 refine⟨h.1,h.2.1,fun h0=>?_⟩
 obtain⟨g,o,cs,e,hh,hc⟩:=h.2.2 h0
 have hlt:=(Array.getElem?_eq_some_iff.1 hh).1
 have hn:¬ S g:=fun hs=>hS g hs cs hh
 exact⟨g,o,cs,e,(hb.block g hlt hn).trans hh,fun j x hx=>(World.cell?_of_block (w:=w) (hb.block g hlt hn)).trans (hc j x hx)⟩
theorem zae.ext {w w':World} {A:Option Addr} {m:Nat} {l:List Nat}(h:zae w A m l)(hb:Ext w w'):zae w' A m l:=h.frm (S:=fun _=>False) hb (fun _ hk=>hk.elim)
theorem zae.at_ {w:World} {A:Option Addr} {m k:Nat} {l:List Nat}(h:zae w A m l)(hk:k<m):∃ (g o x:Nat),A=some ⟨g,o,none⟩∧Hid (l[k]?=some x)∧w.cell? ⟨g,o+k,none⟩=some (.int .i64 (x:Nat)):=by
 obtain⟨g,o,cs,e,_,hc⟩:=h.2.2 (by omega)
 have hx:l[k]?=some (l[k]'(by have:=h.1;omega)):=List.getElem?_eq_getElem _
 exact⟨g,o,_,e,hx,hc k _ hx⟩
theorem zae.own {w:World} {base n c:Nat} {A:Option Addr} {l:List Nat}(h:w.ownsRow base 3 1 (.slice A n c) n (nats l)):zae w A n l:=by
 have hl:=h.1
 rw [nats_length] at hl
 refine⟨by omega,(Reads.of_own h).len,fun h0=>?_⟩
 rcases h.2 with ⟨_,h1⟩|⟨g,cap,cur,hv,_,hh,_⟩
 ·omega
 ·have hA:A=some ⟨g,0,none⟩:=by injection hv
  subst hA
  refine⟨g,0,cur,rfl,hh,fun j x hx=>?_⟩
  have hj:=(List.getElem?_eq_some_iff.1 hx).1
  rw [Nat.zero_add,h.cellAt j (by omega)]
  simp [nats,hx]
theorem info_step:(Tryz.prog.info? 199).map (fun i=>(i.zero,i.size,i.bytes))=some (some (.agg #[.int .i64 0,.int .i64 0,.slice none 0 0]),3,40):=by kernel_rfl
def zbx:List (Stp × Value)→List Value
 |[]=>[]
 |(p,v) :: r=>.int .i64 p.parent :: .int .i64 (p.letter:Nat) :: v :: zbx r
theorem zgl (l m:List (Stp × Value)):zbx (l++m)=zbx l++zbx m:=by
 induction l with
 |nil=>rfl
 |cons x r ih=>obtain⟨p,v⟩:=x;simp [zbx,ih]
theorem zfR {l:List (Stp × Value)} {k:Nat} {p:Stp} {v:Value}(h:l[k]?=some (p,v)):(zbx l)[k*3]?=some (.int .i64 p.parent)∧(zbx l)[k*3+1]?=some (.int .i64 (p.letter:Nat))∧(zbx l)[k*3+2]?=some v:=by
 induction l generalizing k with
 |nil=>simp at h
 |cons a r ih =>
  cases k with
  |zero=>simp at h;subst h;exact⟨rfl,rfl,rfl⟩
  |succ k =>
   obtain⟨p',v'⟩:=a
   have:=ih (k:=k) (by simpa using h)
   have e1:(k+1)*3=k*3+1+1+1:=by omega
   refine⟨?_,?_,?_⟩<;>rw [e1]<;>simp only [zbx,List.getElem?_cons_succ]
   ·exact this.1
   ·exact this.2.1
   ·exact this.2.2
def Nodes (w:World) (sts:List (Stp × Value)):Prop:=∀ (k:Nat) (p:Stp) (v:Value),sts[k]?=some (p,v)→∃ A c,v=.slice A p.nodes.length c∧zae w A p.nodes.length p.nodes
theorem Nodes.frm {S:Nat→Prop} {w w':World} {sts:List (Stp × Value)}(h:Nodes w sts)(hb:Frm S w w')(hS:∀ k,S k→∀ cs,w.heap[k]?≠some (.cells cs 3 (0,0))):Nodes w' sts:=fun k p v hk=>by
 obtain⟨A,c,e,hx⟩:=h k p v hk
 exact⟨A,c,e,hx.frm hb hS⟩
structure Sea (w0 w:World) (bs bg bt gs N cs:Nat) (fg:Value) (S:List Bool) (vst:Value) (sts:List (Stp × Value)):Prop where
 ext:Ext w0 w
 vs:Blk w bs 25 #[.slice (some ⟨gs,0,none⟩) N cs]
 ds:w.ownsRow w0.heap.size 4 1 (.slice (some ⟨gs,0,none⟩) N cs) N (zaz S)
 vg:∃ t,Blk w bg t #[fg]
 vt:Blk w bt 197 #[vst]
 dt:w.ownsRow w0.heap.size 199 3 vst sts.length (zbx sts)
 nd:Nodes w sts
 hs:w0.heap.size≤bs
 hg:w0.heap.size≤bg
 ht:w0.heap.size≤bt
 hgt:bg≠bt
 hgg:bg≠gs
 hgv:∀ b,vst.ownBlock=some b→b≠bg
section
variable {w0 w w':World} {bs bg bt gs N cs:Nat} {fg vst:Value} {S:List Bool} {sts:List (Stp × Value)}
theorem Sea.far {T:Nat→Prop} {H:Nat}(h:Sea w0 w bs bg bt gs N cs fg S vst sts)(hb:Frm T w w')(hT:∀ k,T k→H≤k)(h1:bs<H)(h2:bg<H)(h3:bt<H)(h4:gs<H)(h5:∀ b,vst.ownBlock=some b→b<H)(h0:w0.heap.size≤H)(hn:Nodes w' sts):Sea w0 w' bs bg bt gs N cs fg S vst sts:=by
 obtain⟨t,hvg⟩:=h.vg
 refine⟨h.ext.frm hb (fun k hk hS=>by have:=hT k hS;omega),h.vs.frm hb (fun hS=>by have:=hT _ hS;omega),ze h.ds hb (fun b hv hS=>?_),⟨t,hvg.frm hb (fun hS=>by have:=hT _ hS;omega)⟩,h.vt.frm hb (fun hS=>by have:=hT _ hS;omega),ze h.dt hb (fun b hv hS=>by have:=hT _ hS;have:=h5 b hv;omega),hn,h.hs,h.hg,h.ht,h.hgt,h.hgg,h.hgv⟩
 have hbg:gs=b:=by simpa [Value.ownBlock] using hv
 have:=hT _ hS
 omega
theorem Sea.ext_ (h:Sea w0 w bs bg bt gs N cs fg S vst sts)(hx:Ext w w'):Sea w0 w' bs bg bt gs N cs fg S vst sts:=by
 obtain⟨t,hvg⟩:=h.vg
 exact⟨h.ext.trans hx,h.vs.ext hx,zf h.ds hx,⟨t,hvg.ext hx⟩,h.vt.ext hx,zf h.dt hx,h.nd.frm (S:=fun _=>False) hx (fun _ hk=>hk.elim),h.hs,h.hg,h.ht,h.hgt,h.hgg,h.hgv⟩
theorem Sea.gs_lt (h:Sea w0 w bs bg bt gs N cs fg S vst sts):w0.heap.size≤gs∧gs<w.heap.size:=h.ds.lt gs rfl
theorem Sea.gs_row (h:Sea w0 w bs bg bt gs N cs fg S vst sts):∃ cur,w.heap[gs]?=some (.cells cur 4 (0,0)):=by
 rcases h.ds.2 with ⟨hv,_⟩|⟨g,cap,cur,hv,_,hh,_⟩
 ·injection hv with h1;cases h1
 ·have:gs=g:=by injection hv with h1;injection h1 with h1;injection h1
  subst this
  exact⟨cur,hh⟩
theorem Sea.vst_row (h:Sea w0 w bs bg bt gs N cs fg S vst sts) {b:Nat}(hb:vst.ownBlock=some b):∃ cur,w.heap[b]?=some (.cells cur 199 (0,0)):=by
 rcases h.dt.2 with ⟨rfl,_⟩|⟨g,cap,cur,rfl,_,hh,_⟩
 ·simp [Value.ownBlock] at hb
 ·have hg:g=b:=by simpa [Value.ownBlock] using hb
  subst hg
  exact⟨cur,hh⟩
theorem Sea.mark (h:Sea w0 w bs bg bt gs N cs fg S vst sts) {n:Nat}:Sea w0 (w.setCell ⟨gs,n,none⟩ (.bool true)) bs bg bt gs N cs fg (S.set n true) vst sts:=by
 obtain⟨t,hvg⟩:=h.vg
 obtain⟨cur,hh⟩:=h.gs_row
 have hf:=Frm.setCell w gs n (.bool true)
 have hne:∀ {b:Nat} {t:TypeId} {cs:Array Value},w.heap[b]?=some (.cells cs t (0,0))→t≠4→b≠gs:=by
  rintro b t cs hb ht rfl
  rw [hh] at hb
  injection hb with hb
  injection hb with _ h2
  exact ht h2.symm
 have hset:(zaz S).set n (.bool true)=zaz (S.set n true):=by simp [zaz,List.map_set]
 have hds:=(h.ds.stored n (.bool true)).1
 rw [hset] at hds
 refine⟨h.ext.setCell h.gs_lt.1 _,h.vs.frm hf (hne h.vs (by decide)),hds,⟨t,hvg.frm hf h.hgg⟩,h.vt.frm hf (hne h.vt (by decide)),ze h.dt hf (fun b hv=>?_),h.nd.frm hf (fun k hk cs hc=>?_),h.hs,h.hg,h.ht,h.hgt,h.hgg,h.hgv⟩
 ·obtain⟨cur',hh'⟩:=h.vst_row hv
  exact hne hh' (by decide)
 ·exact hne hc (by decide) hk
theorem Sea.push {g cap l c':Nat} {A':Option Addr} {p:Stp}(h:Sea w0 w bs bg bt gs N cs fg S vst sts)(hown:w'.ownsRow w0.heap.size 199 3 (.slice (some ⟨g,0,none⟩) (sts.length+1) cap) (sts.length+1) (zbx sts++[.int .i64 p.parent,.int .i64 (p.letter:Nat),.slice A' l c']))
  (hg:w.grownBy w' vst.ownBlock) (hat:vst.ownBlock=some g∨g=w.heap.size+1) (hl:l=p.nodes.length) (hA:zae w A' l p.nodes) :
  Hid (w'.cell? ⟨bt,0,none⟩=some vst)∧w'.frozen? ⟨bt,0,none⟩=false∧Sea w0 (w'.setCell ⟨bt,0,none⟩ (.slice (some ⟨g,0,none⟩) (sts.length+1) cap)) bs bg bt gs N cs fg S (.slice (some ⟨g,0,none⟩) (sts.length+1) cap) (sts++[(p,.slice A' l c')]):=by
 obtain⟨t,hvg⟩:=h.vg
 have hf:=Frm.of_grown hg
 have hrow:∀ {b:Nat} {t:TypeId} {cs:Array Value},w.heap[b]?=some (.cells cs t (0,0))→t≠199→¬ (vst.ownBlock=some b):=by
  intro b t cs hb ht hv
  obtain⟨cur,hh⟩:=h.vst_row hv
  rw [hh] at hb
  injection hb with hb
  injection hb with _ h2
  exact ht h2.symm
 obtain⟨cur,hgs⟩:=h.gs_row
 have hvt:Blk w' bt 197 #[vst]:=h.vt.frm hf (hrow h.vt (by decide))
 have hvs:=h.vs.frm hf (hrow h.vs (by decide))
 have hds:=ze h.ds hf (fun b hv=>by
  have hb:gs=b:=by simpa [Value.ownBlock] using hv
  subst hb
  exact hrow hgs (by decide))
 have hvg':=hvg.frm hf (fun hv=>h.hgv _ hv rfl)
 have hnd:=h.nd.frm hf (fun k hk cs hc=>hrow hc (by decide) hk)
 have hA':=hA.frm hf (fun k hk cs hc=>hrow hc (by decide) hk)
 have hgs':w'.heap[gs]?=some (.cells cur 4 (0,0)):=(hf.block gs h.gs_lt.2 (hrow hgs (by decide))).trans hgs
 have hx:Ext w0 w':=h.ext.frm hf (fun k hk hv=>by have:=(h.dt.lt k hv).1;omega)
 have hgbg:g≠bg:=by
  rcases hat with h1|h1
  ·exact h.hgv g h1
  ·have:=hvg.lt;omega
 have hgr:∃ cur,w'.heap[g]?=some (.cells cur 199 (0,0)):=by
  rcases hown.2 with ⟨hv,_⟩|⟨g',cap',cur,hv,_,hh,_⟩
  ·injection hv with h1;cases h1
  ·have:g=g':=by injection hv with h1;injection h1 with h1;injection h1
   subst this
   exact⟨cur,hh⟩
 obtain⟨cur',hgr⟩:=hgr
 have hf2:=Frm.setCell w' bt 0 (.slice (some ⟨g,0,none⟩) (sts.length+1) cap)
 have hne:∀ {b:Nat} {t:TypeId} {cs:Array Value},w'.heap[b]?=some (.cells cs t (0,0))→t≠197→b≠bt:=by
  rintro b t cs hb ht rfl
  unfold Blk at hvt
  rw [hvt] at hb
  injection hb with hb
  injection hb with _ h2
  exact ht h2.symm
 have hdt:=ze hown hf2 (fun b hv=>by
  have hb:g=b:=by simpa [Value.ownBlock] using hv
  subst hb
  exact hne hgr (by decide))
 have hnd2:=hnd.frm hf2 (fun k hk cs hc=>hne hc (by decide) hk)
 have hA2:=hA'.frm hf2 (fun k hk cs hc=>hne hc (by decide) hk)
 refine⟨hvt.cell 0,hvt.frozen 0,hx.setCell h.ht _,hvs.frm hf2 (hne hvs (by decide)),ze hds hf2 (fun b hv=>by
  have hb:gs=b:=by simpa [Value.ownBlock] using hv
  subst hb
  exact hne hgs' (by decide)),⟨t,hvg'.frm hf2 h.hgt⟩,by simpa using hvt.set_ 0 _,?_,?_,h.hs,h.hg,h.ht,h.hgt,h.hgg,fun b hv=>?_⟩
 ·rw [zgl]
  simpa [zbx] using hdt
 ·intro k p' v' hk
  rcases Nat.lt_trichotomy k sts.length with h1|h1|h1
  ·rw [List.getElem?_append_left h1] at hk
   exact hnd2 k p' v' hk
  ·rw [List.getElem?_append_right (by omega),h1,Nat.sub_self] at hk
   have:=Option.some.inj hk
   injection this with e1 e2
   subst e1;subst e2
   subst hl
   exact⟨A',c',rfl,hA2⟩
  ·rw [List.getElem?_eq_none (by simp;omega)] at hk
   cases hk
 ·have hb:g=b:=by simpa [Value.ownBlock] using hv
  subst hb
  exact hgbg
end
set_option maxHeartbeats 2000000
def RetVisit (w0 w:World) (bs bg bt gs N cs:Nat) (fg:Value) (S:List Bool) (sts:List (Stp × Value)) (goal:Nat→Bool) (parent:Int) (letter:Nat) (ns:List Nat) (e:Ending) (w':World):Prop:=
 e=.returned (.bool ((vis S ns).2.any goal))∧Ext w0 w'∧w.heap.size≤w'.heap.size ∧
  ∃ (vst:Value) (sts':List (Stp × Value)),Sea w0 w' bs bg bt gs N cs fg (vis S ns).1 vst sts' ∧
   (((vis S ns).2=[]∧sts'=sts)∨((vis S ns).2≠[]∧∃ v,sts'=sts++[(⟨parent,letter,(vis S ns).2⟩,v)]))
theorem vis_take {S:List Bool} {ns:List Nat} {k n:Nat}(h:ns[k]?=some n):vis S (ns.take (k+1))=visN (vis S (ns.take k)) n:=by
 rw [List.take_add_one,h]
 exact vis_snoc _ _ _
theorem Frm.grown_ {T:Nat→Prop} {w W W':World} {row:Option Nat}(h:Frm T w W)(hg:W.grownBy W' row)(hr:∀ k,row=some k→w.heap.size≤k):Frm T w W':=
 ⟨hg.os.trans h.os,hg.tape.trans h.tape,hg.output.trans h.output,Nat.le_trans h.size hg.size,fun k hk hn=>(hg.block k (Nat.lt_of_lt_of_le hk h.size) (fun e=>by have:=hr k e.symm;omega)).trans (h.block k hk hn)⟩
theorem any_snoc {l:List Nat} {n:Nat} {p:Nat→Bool}:(l++[n]).any p=(l.any p || p n):=by simp
set_option maxRecDepth 100000 in
theorem zfV {w0 w:World} {bs bg bt gs N cs kg:Nat} {capg:Array Value} {goal:Nat→Bool} {S:List Bool} {vst:Value} {sts:List (Stp × Value)} {A:Option Addr} {m c letter:Nat} {parent:Int} {ns:List Nat}
  (h:Sea w0 w bs bg bt gs N cs (.func (.func kg) #[] capg) S vst sts) (hA:zae w A m ns) (hN:∀ n∈ns,n<N) (hm:m≤1099511627776) (hst:sts.length≤1073741824)
  (hin:∀ args W,(callFunc kg args).run Tryz.prog W=.ok (.enter kg args) W) (hgoal:∀ W,Ext w0 W→∀ n,n<N→Calls Tryz.prog kg (#[.int .i64 (n:Nat)]++capg) W fun e W'=>e=.returned (.bool (goal n))∧Ext W W') :
  Calls Tryz.prog 180 #[.int .i64 parent,.int .i64 letter,.slice A m c,.pointer (some ⟨bs,0,none⟩),.pointer (some ⟨bg,0,none⟩),.pointer (some ⟨bt,0,none⟩)] w (RetVisit w0 w bs bg bt gs N cs (.func (.func kg) #[] capg) S sts goal parent letter ns):=by
 have hSl:=hide (show S.length=N by have:=h.ds.1;rw [zeK] at this;omega)
 have hnl:=hide hA.1
 have hNs:=hide hN
 have Hgoal:=hide hgoal
 have h1:=h.vs.lt
 have h2:bg<w.heap.size:=by obtain⟨t,hh⟩:=h.vg;exact hh.lt
 have h3:=h.vt.lt
 have h4:=h.gs_lt
 have h5:=hide (fun b (hb:vst.ownBlock=some b)=>(h.dt.lt b hb).2)
 have h0:=h.ext.size
 have HgsI:=hide (show ∀ k,k=gs→∀ cs,w.heap[k]?≠some (.cells cs 3 (0,0)) by
  rintro k rfl cs' hc
  obtain⟨cur,hh⟩:=h.gs_row
  rw [hh] at hc
  injection hc with hc
  injection hc with _ h2
  exact absurd h2 (by decide))
 have Hnd:=hide h.nd
 clear hN hgoal
 go_enter Tryz.func180,Tryz.ntmps180
 go_wp2_with fail
 go_loopw [10,11,16] (fun v q i wr=>∃ k:Nat,k≤m∧i=.int .i64 k∧q=.bool ((vis S (ns.take k)).2.any goal)∧wr.ownsRow w.heap.size 3 1 v (vis S (ns.take k)).2.length (nats (vis S (ns.take k)).2)∧(vis S (ns.take k)).2.length≤k ∧
   Sea w0 wr bs bg bt gs N cs (.func (.func kg) #[] capg) (vis S (ns.take k)).1 vst sts∧Frm (fun b=>b=gs) w wr) (fun _ _ i _=>m - (intOf i).toNat)
 case atStart=>exact⟨0,Nat.zero_le _,rfl,rfl,World.ownsRow_nil _ _ _ _,Nat.zero_le _,h,Frm.refl _ _⟩
 case round =>
  clear h
  obtain⟨k,hk,rfl,rfl,hown,hfl,h,hfr⟩:=hrel
  have hTl:=hide (show (vis S (ns.take k)).1.length=N by have:=h.ds.1;rw [zeK] at this;omega)
  by_cases hlt:k<m
  ·obtain⟨g,o,n,rfl,hx,hc⟩:=(hA.frm hfr HgsI.out).at_ hlt
   have hnN:=hNs.out n (List.mem_of_getElem? hx.out)
   have hv1:=hide (vis_take (S:=S) hx.out)
   generalize vis S (ns.take k)=st at *
   obtain⟨T,fr⟩:=st
   simp only at hown hfl h hTl
   obtain⟨tb,htb⟩:∃ tb,Hid (T[n]?=some tb):=⟨_,List.getElem?_eq_getElem (by have:=hTl.out;omega)⟩
   have htd:=hide (show T.getD n true=tb by rw [List.getD_eq_getElem?_getD,htb.out];rfl)
   have cS:=h.vs.cell
   have cD:wr.cell? ⟨gs,n,none⟩=some (.bool tb):=by rw [h.ds.cellAt n (by omega)];simp [zaz,htb.out]
   have fD:=h.ds.frozenAt n
   cases tb
   ·have hv2:=hide (hv1.out.trans (show visN (T,fr) n=(T.set n true,fr++[n]) by unfold visN;rw [if_neg (by rw [htd.out];decide)]))
    have hmk:=h.mark (n:=n)
    have hfm:Frm (fun b=>b=gs) w (wr.setCell ⟨gs,n,none⟩ (.bool true)):=hfr.cell rfl _
    have hgsw:=h4.2
    have hownm:=ze hown (Frm.setCell wr gs n (.bool true)) (fun b hv hS=>by have:=(hown.lt b hv).1;omega)
    have hcf:∃ tg,Blk wr bg tg #[.func (.func kg) #[] capg]:=h.vg
    cases hfb:fr.any goal
    all_goals
     have Hfb:=hide hfb
     clear hfb
     go_upto_region 8 with fail
     generalize wr.setCell ⟨gs,n,none⟩ (.bool true)=w2 at *
     go_wp2_with (at_builtin;refine zam w _ rfl _ _ _ rfl 3 _ 1 8 Tryz.underlying71 zY rfl (by decide) u10 fr.length (nats fr) _ _ rfl rfl hfm.size hownm rfl (by simp [Value.oneCell']) (by unfold maxLen;omega) (by omega) ?_;intro g5 cap5 w3 hown3 hg3 hat3 hlt3;have hf3:Frm (fun b=>b=gs) w w3:=hfm.grown_ hg3 (fun k hk=>(hownm.lt k hk).1);have hsea3:=hmk.far (Frm.of_grown hg3) (fun k hk=>(hownm.lt k hk).1) h1 h2 h3 h4.2 h5.out h0 (Hnd.out.frm hf3 HgsI.out);obtain⟨tg,hbg3⟩:=hsea3.vg;have cg3:=hbg3.cell)
    ·refine (Hgoal.out w3 hsea3.ext n hnN).mono ?_
     rintro e w4 ⟨rfl,hx4⟩
     go_wp2_with fail
     go_roundw
     case rel=>exact⟨k+1,by omega,by go_num,by rw [hv2.out,any_snoc,Hfb.out];rfl,by rw [hv2.out];simpa [nats] using zf hown3 hx4,by rw [hv2.out];simp;omega,by rw [hv2.out];exact hsea3.ext_ hx4,hf3.ext hx4⟩
     case measure=>simp [intOf];omega
    ·go_roundw
     case rel=>exact⟨k+1,by omega,by go_num,by rw [hv2.out,any_snoc,Hfb.out];rfl,by rw [hv2.out];simpa [nats] using hown3,by rw [hv2.out];simp;omega,by rw [hv2.out];exact hsea3,hf3⟩
     case measure=>simp [intOf];omega
   ·have hv2:=hide (hv1.out.trans (show visN (T,fr) n=(T,fr) by unfold visN;rw [if_pos htd.out]))
    go_wp2_with fail
    go_roundw
    case rel=>exact⟨k+1,by omega,by go_num,by rw [hv2.out],by rw [hv2.out];exact hown,by rw [hv2.out];exact Nat.le_succ_of_le hfl,by rw [hv2.out];exact h,hfr⟩
    case measure=>simp [intOf];omega
  ·obtain rfl:k=m:=by omega
   have htk:ns.take k=ns:=List.take_of_length_le (by have:=hnl.out;omega)
   rw [htk] at hown hfl h ⊢
   have hsz:=hfr.size
   clear htk hTl
   obtain⟨A',c',rfl⟩:=zh hown
   have hA':=zae.own hown
   have hres:=hide (show ∀ W vst' sts',Sea w0 W bs bg bt gs N cs (.func (.func kg) #[] capg) (vis S ns).1 vst' sts'→w.heap.size≤W.heap.size→(((vis S ns).2=[]∧sts'=sts)∨((vis S ns).2≠[]∧∃ v,sts'=sts++[(⟨parent,letter,(vis S ns).2⟩,v)]))→RetVisit w0 w bs bg bt gs N cs (.func (.func kg) #[] capg) S sts goal parent letter ns (.returned (.bool ((vis S ns).2.any goal))) W from fun W vst' sts' h1 h2 h3=>⟨rfl,h1.ext,h2,vst',sts',h1,h3⟩)
   clear Hgoal hin
   generalize vis S ns=st at *
   obtain⟨T,fr⟩:=st
   simp only at hown hfl h hA' hres ⊢
   generalize fr.any goal=found at *
   cases hfr0:fr with
   |nil =>
    subst hfr0
    go_wp2_with fail
    go_ret
    exact hres.out _ _ _ h hsz (Or.inl (by simp))
   |cons x r =>
    have hfl0:0<fr.length:=by rw [hfr0];simp
    have hfne:=hide (show fr≠[] by rw [hfr0];simp)
    rw [← hfr0]
    clear hfr0
    have cT:=h.vt.cell
    go_wp2_with (at_builtin;refine zam w0 wr rfl _ _ _ rfl 199 _ 3 40 Tryz.underlying197 info_step rfl (by decide) vst sts.length (zbx sts) _ _ rfl rfl h.ext.size h.dt rfl (by simp [Value.oneCell']) (by unfold maxLen;omega) (by omega) ?_;intro g5 cap5 w3 hown3 hg3 hat3 hlt3;obtain⟨q1,q2,q3⟩:=h.push (p:=⟨parent,letter,fr⟩) hown3 hg3 hat3 rfl hA';have q1':=q1.out;have hsz3:=hg3.size)
    go_ret
    exact hres.out _ _ _ q3 (by simp;omega) (Or.inr ⟨hfne.out,_,rfl⟩)
end Go.Proofs.YtndhahednhnnbaaGreatDoor
namespace Go.Proofs.YtndhahednhnnbaaGreatDoor
open Go Go.RowKit Go.Lib Go.Sort
set_option maxHeartbeats 2000000
abbrev enc8 (n:Int):Value:=.int .u8 n
set_option maxRecDepth 1000000 in
theorem rev_bytes (blk off cap:Nat) (d:Array Int) (w:World)(hH:Holds enc8 w blk off d)(hsz:d.size≤9223372036854775807) :
  Calls Tryz.prog 209 #[.slice (some ⟨blk,off,none⟩) d.size cap] w fun e w'=>e=.returned (.tuple #[])∧∃ n,w'=putRow enc8 (Sort.ahead w n) blk off d.reverse:=by
 have mixed:Tryz.prog.follows .mixedOrders=true:=by kernel_rfl
 go_enter Tryz.func209,Tryz.ntmps209
 go_wp2
 go_loopg [2,3] d.size (fun k s2 s3 wr=>∃ (i jn:Nat) (jz:Int) (dk:Array Int) (n:Nat),s2=.int .i64 i∧s3=.int .i64 jz∧((i:Int)<jz→jz=jn∧jn<d.size)∧(¬ (i:Int)<jz→¬ i<jn)∧jn - i≤k ∧
  dk.size=d.size∧wr=putRow enc8 (Sort.ahead w n) blk off dk∧reverseLoop i jn dk=reverseLoop 0 (d.size - 1) d)
 case atStart=>exact⟨0,d.size - 1,(d.size:Int) - 1,d,0,rfl,rfl,fun h=>⟨by omega,by omega⟩,fun h=>by omega,by omega,rfl,(putRow_self enc8 w blk off d hH).symm,rfl⟩
 case round =>
  obtain⟨i,jn,jz,dk,n,rfl,rfl,h1,h2,hk,hds,hwr,heq⟩:=hrel
  by_cases hlt:(i:Int)<jz
  ·obtain⟨rfl,hjn⟩:=h1 hlt
   have hij:i<jn:=by omega
   have hid:i<d.size:=by omega
   have hHk:Holds enc8 wr blk off dk:=by rw [hwr];exact holds_putRow enc8 _ blk off d dk (holds_ahead enc8 w n blk off d hH) hds
   obtain⟨ci,fi⟩:=hHk i (by omega)
   obtain⟨cj,fj⟩:=hHk jn (by omega)
   have A:Aside (wr=putRow enc8 (Sort.ahead w n) blk off dk):=hwr
   clear hwr hHk hH h1 h2
   go_wp2_with fail
   go_region_o
   go_wp2
   go_roundg (jn - 1 - (i+1))
   case measure=>omega
   case rel =>
    rw [reverseLoop,if_pos hij] at heq
    exact⟨i+1,jn - 1,(jn:Int) - 1,swp dk i jn,n+1,by simp,rfl,fun h=>⟨by omega,by omega⟩,fun h=>by omega,Nat.le_refl _,by rw [size_swp];exact hds,
     swap_world enc8 (by omega) (by omega) A.out (by first|rfl|simp [enc8,getElem!_pos,show jn<dk.size by omega]) (by first|rfl|simp [enc8,getElem!_pos,show i<dk.size by omega]),heq⟩
  ·have hnot:=h2 hlt
   go_wp2
   go_end0
   refine⟨rfl,n,?_⟩
   rw [reverseLoop,if_neg hnot] at heq
   rw [← Lib.reverseLoop_reverse,← heq]
end Go.Proofs.YtndhahednhnnbaaGreatDoor
namespace Go.Proofs.YtndhahednhnnbaaGreatDoor
open Go Go.RowKit
set_option maxHeartbeats 2000000
theorem zgc {l:Nat}(hl:l<6) (w:World):Calls Tryz.prog 208 #[.int .i64 (l:Nat)] w fun e w'=>e=.returned (.int .u8 ((97+l:Nat):Nat))∧w=w':=by
 go_enter Tryz.func208,Tryz.ntmps208
 go_wp2
 go_ret
 exact⟨by rw [show (((97+l:Nat):Nat):Int)=97+(l:Int) by omega];rfl,rfl⟩
theorem rev_none (w:World):Calls Tryz.prog 209 #[.slice none 0 0] w fun e w'=>e=.returned (.tuple #[])∧w'=w:=by
 go_enter Tryz.func209,Tryz.ntmps209
 go_wp2
 go_loopg [2,3] 0 (fun k s2 s3 wr=>s2=.int .i64 0∧s3=.int .i64 (-1)∧wr=w)
 case atStart=>exact⟨rfl,rfl,rfl⟩
 case round =>
  obtain⟨rfl,rfl,rfl⟩:=hrel
  go_wp2
  go_end0
  exact⟨rfl,rfl⟩
theorem info_u8:(Tryz.prog.info? 5).map (fun i=>(i.zero,i.size,i.bytes))=some (some (.int .u8 0),1,1):=by kernel_rfl
def lbs (o:List Nat):List Int:=o.map fun l=>((97+l:Nat):Int)
theorem lbs_reverse (o:List Nat):lbs o.reverse=(lbs o).reverse:=by simp [lbs]
def u8s (l:List Int):List Value:=l.map enc8
theorem Holds.own8 {w:World} {base g n cap:Nat} {e:TypeId} {l:List Int}(h:w.ownsRow base e 1 (.slice (some ⟨g,0,none⟩) n cap) n (u8s l)):Sort.Holds enc8 w g 0 l.toArray:=by
 intro j hj
 have hj':j<l.length:=by simpa using hj
 have hn:=h.1
 simp only [u8s,List.length_map] at hn
 refine⟨?_,by rw [Nat.zero_add];exact h.frozenAt j⟩
 rw [Nat.zero_add,h.cellAt j (by omega)]
 simp [u8s,hj']
theorem Ext.putRow {w W:World} {g off n:Nat} {d:Array Int}(h:Ext w W)(hg:w.heap.size≤g):Ext w (Sort.putRow enc8 (Sort.ahead W n) g off d):=by
 refine⟨h.os,h.tape,h.output,?_,fun k hk _=>?_⟩
 ·show w.heap.size≤(W.heap.modify g _).size
  rw [Array.size_modify];exact h.size
 ·show (W.heap.modify g _)[k]?=_
  rw [Array.getElem?_modify,if_neg (by omega)]
  exact h.heap hk
theorem u8_row:Tryz.prog.underlying 22=some (.slice 5):=by kernel_rfl
theorem u8_und:Tryz.prog.underlying 5=some (.int .u8):=by kernel_rfl
theorem zgZ:Tryz.prog.underlying 9=some .string:=by kernel_rfl
theorem Ext.put_some {w W w':World} {g off:Nat} {d:Array Int}(h:Ext w W)(hg:w.heap.size≤g)(hw:∃ n,w'=Sort.putRow enc8 (Sort.ahead W n) g off d):Ext w w':=by
 obtain⟨n,rfl⟩:=hw
 exact h.putRow hg
theorem conv_rev {W w':World} {g cap:Nat} {o:List Nat}(h:Sort.Holds enc8 W g 0 (lbs o).toArray)(hw:∃ n,w'=Sort.putRow enc8 (Sort.ahead W n) g 0 (lbs o).toArray.reverse) :
  (convert 22 9 (.slice (some ⟨g,0,none⟩) o.length cap)).run Tryz.prog w'=.ok (.string (strOfNums (lbs o.reverse))) w':=by
 obtain⟨n,rfl⟩:=hw
 have hH:=Sort.holds_putRow enc8 _ g 0 _ (lbs o).toArray.reverse (Sort.holds_ahead enc8 W n g 0 _ h) (by simp)
 refine run_convert_bytes_arg (P:=Tryz.prog) _ 22 5 u8_row u8_und g 0 o.length cap (lbs o.reverse) (by simp [lbs]) (fun i hi=>?_) _ zgZ
 rw [(hH i (by simpa [lbs] using hi)).1,lbs_reverse]
 have hi2:i<(lbs o).reverse.length:=by simpa [lbs] using hi
 have hi3:i<(lbs o).toArray.reverse.size:=by simpa [lbs] using hi
 rw [getElem!_pos (lbs o).toArray.reverse i hi3]
 simp [enc8,List.getD,List.getElem?_eq_getElem hi2,-List.getElem?_reverse,-List.getElem_reverse]
set_option maxRecDepth 100000 in
theorem pathWord_any {w:World} {base:Nat} {A:Option Addr} {n c:Nat} {sts:List (Stp × Value)} {ws:List (List Nat)}(h:w.ownsRow base 199 3 (.slice A n c) n (zbx sts))(hn:sts.length=n)(h0:0<n)(hsz:n≤1073741824)
  (hw:∀ (k:Nat) (p:Stp) (v:Value),sts[k]?=some (p,v)→(p.parent = -1∧ws.getD k []=[])∨∃ a:Nat,p.parent=(a:Int)∧a<k∧p.letter<6∧ws.getD k []=ws.getD a []++[p.letter]) :
  Calls Tryz.prog 181 #[.slice A n c] w fun e w'=>e=.returned (.string (strOfNums (lbs (ws.getD (n - 1) []))))∧Ext w w':=by
 have Hw:=hide hw
 have Hn:=hide hn
 obtain⟨g,rfl⟩:∃ g,A=some ⟨g,0,none⟩:=by
  rcases h.2 with ⟨_,hh⟩|⟨g,cap,cur,hv,_⟩
  ·omega
  ·exact⟨g,by injection hv⟩
 have hgl:=(h.lt g rfl).2
 have Hcell:=hide (fun (k:Nat) (p:Stp) (v:Value) (hk:sts[k]?=some (p,v))=>(show w.cell? ⟨g,k*3,none⟩=some (.int .i64 p.parent)∧w.cell? ⟨g,k*3+1,none⟩=some (.int .i64 (p.letter:Nat)) by
  have hkl:=(List.getElem?_eq_some_iff.1 hk).1
  obtain⟨e1,e2,_⟩:=zfR hk
  rw [h.cellAt _ (by omega),h.cellAt _ (by omega)]
  exact⟨e1,e2⟩))
 clear hw hn h
 go_enter Tryz.func181,Tryz.ntmps181
 go_wp2
 go_loopw [3,4] (fun v i wr=>∃ (k:Nat) (o:List Nat),k<n∧i=.int .i64 k∧wr.ownsRow w.heap.size 5 1 v o.length (u8s (lbs o))∧Hid (ws.getD (n - 1) []=ws.getD k []++o.reverse)∧o.length+k<n∧Ext w wr)
  (fun _ i _=>(intOf i).toNat)
 case atStart=>exact⟨n - 1,[],by omega,by first|go_num|(congr 1;omega),World.ownsRow_nil _ _ _ _,by simp [Hid],by simp;omega,Ext.refl _⟩
 case round =>
  obtain⟨k,o,hk,rfl,hown,hword,hol,hext⟩:=hrel
  obtain⟨p,v,hp⟩:∃ p v,sts[k]?=some (p,v):=⟨_,_,List.getElem?_eq_getElem (by have:=Hn.out;omega)⟩
  obtain⟨c0,c1⟩:=Hcell.out k p v hp
  have C0:∀ W,Ext w W→W.cell? ⟨g,k*3,none⟩=some (.int .i64 p.parent):=fun W hW=>hW.cell_some c0
  have C1:∀ W,Ext w W→W.cell? ⟨g,k*3+1,none⟩=some (.int .i64 (p.letter:Nat)):=fun W hW=>hW.cell_some c1
  obtain⟨par,l,ns⟩:=p
  dsimp only at C0 C1
  have hkn:(k:Int)<(n:Int):=by omega
  clear c0 c1
  rcases Hw.out k _ v hp with ⟨hpar,hwk⟩|⟨a,hpar,hak,hl6,hwk⟩
  ·dsimp only at hpar
   subst hpar
   have hwf:=hide (show ws.getD (n - 1) []=o.reverse by rw [hword.out,hwk];rfl)
   clear hword hwk hp
   rcases hown.2 with ⟨rfl,hol0⟩|⟨gg,cap,cur,rfl,hgg,hh,_⟩
   ·have ho:o=[]:=List.eq_nil_of_length_eq_zero hol0
    subst ho
    have hcv:∀ W,(convert 22 9 (.slice none 0 0)).run Tryz.prog W=.ok (.string ByteArray.empty) W:=fun W=>run_convert_bytes_nil (P:=Tryz.prog) W 22 5 u8_row u8_und _ _ _ zgZ
    go_wp2_with (go_at_call 209;refine (rev_none _).mono ?_;rintro e w' ⟨rfl,rfl⟩)
    go_ret
    exact⟨by rw [hwf.out];rfl,hext⟩
   ·have key:=rev_bytes gg 0 cap (lbs o).toArray wr (Holds.own8 hown) (by simp [lbs];omega)
    rw [show (lbs o).toArray.size=o.length by simp [lbs]] at key
    have hH:=hide (Holds.own8 hown)
    go_wp2_with (go_at_call 209;refine key.mono ?_;rintro e w' ⟨rfl,hw'⟩;have hcv:=conv_rev (cap:=cap) hH.out hw';have hx:=Ext.put_some hext hgg hw';clear hw')
    go_ret
    exact⟨by rw [hwf.out];rfl,hx⟩
  ·dsimp only at hpar hwk hl6
   subst hpar
   have hwn:=hide (show ws.getD (n - 1) []=ws.getD a []++(o++[l]).reverse by rw [hword.out,hwk];simp)
   clear hword hwk hp
   go_wp2_with (first
    |(go_at_call 208;refine (zgc hl6 _).mono ?_;rintro e w' ⟨rfl,rfl⟩)
    |(at_builtin;refine zP w wr rfl (.tmp 19) (.tmp 26) _ rfl 5 _ 1 1 Tryz.underlying22 info_u8 rfl (by decide) u3 _ _ _ _ rfl rfl hext hown rfl (cells_u8 _) (by unfold maxLen;omega) (by omega) ?_;intro v' w1 hext1 hown1 hg1 hat1))
   go_roundw
   case rel=>exact⟨a,o++[l],by omega,rfl,by simpa [u8s,lbs] using hown1,hwn,by simp;omega,by assumption⟩
   case measure=>simp [intOf];omega
set_option maxHeartbeats 2000000
def zL (w:World) (d:Nat→Nat→List Nat) (start:List Nat) (goal:Nat→Bool) (L:List Nat) (e:Ending) (w':World):Prop:=
 Ext w w'∧((∃ v,e=.returned (.tuple #[.string (strOfNums (lbs v)),.bool true])∧Found d start goal L v)∨(e=.returned (.tuple #[.string ByteArray.empty,.bool false])∧Lost d start goal L))
theorem Sea.start {w w1:World} {N:Nat} {fg:Value} {t:TypeId}(hx:Ext (w.alloc (.cells #[fg] t)) w1)(hsz:(w.alloc (.cells #[fg] t)).heap.size<w1.heap.size)(hg:Blk (w.alloc (.cells #[fg] t)) w.heap.size t #[fg])(hown:w1.ownsRow w.heap.size 4 1 (.slice (some ⟨w.heap.size+1,0,none⟩) N N) N (zaz (List.replicate N false))) :
  Sea w ((w1.alloc (.cells #[.slice (some ⟨w.heap.size+1,0,none⟩) N N] 25)).alloc (.cells #[.slice none 0 0] 197)) w1.heap.size w.heap.size (w1.heap.size+1) (w.heap.size+1) N N fg (List.replicate N false) (.slice none 0 0) []:=by
 simp only [World.size_alloc] at hsz
 have h0:Ext w w1:=((Ext.refl w).alloc _).trans hx
 have hv:=Blk.new w1 25 #[.slice (some ⟨w.heap.size+1,0,none⟩) N N]
 have ht:=Blk.new (w1.alloc (.cells #[.slice (some ⟨w.heap.size+1,0,none⟩) N N] 25)) 197 #[.slice none 0 0]
 have hx2:Ext w1 ((w1.alloc (.cells #[.slice (some ⟨w.heap.size+1,0,none⟩) N N] 25)).alloc (.cells #[.slice none 0 0] 197)):=((Ext.refl w1).alloc _).alloc _
 refine⟨h0.trans hx2,hv.ext ((Ext.refl _).alloc _),zf hown hx2,⟨t,hg.ext (hx.trans hx2)⟩,by simpa using ht,World.ownsRow_nil _ _ _ _,fun k p v hk=>by simp at hk,by omega,Nat.le_refl _,by omega,by omega,by omega,fun b hb=>by simp [Value.ownBlock] at hb⟩
theorem sts_add {sts sts':List (Stp × Value)} {a:Int} {l:Nat} {fr:List Nat}(h:(fr=[]∧sts'=sts)∨(fr≠[]∧∃ v,sts'=sts++[(⟨a,l,fr⟩,v)])):sts'.map Prod.fst=addS (sts.map Prod.fst) a l fr:=by
 rcases h with ⟨h1,rfl⟩|⟨h1,v,rfl⟩
 ·rw [addS,if_pos h1]
 ·rw [addS,if_neg h1];simp
theorem Bfs.letters {d:Nat→Nat→List Nat} {start:List Nat} {goal:Nat→Bool} {L:List Nat} {N:Nat} {S:List Bool} {st:List Stp} {ws:List (List Nat)} {i j:Nat}(h:Bfs d start goal L N S st ws i j):∀ (m k:Nat),k≤m→k<st.length→∀ l∈ws.getD k [],l∈L:=by
 intro m
 induction m with
 |zero =>
  intro k hk hlt l hl
  obtain rfl:k=0:=by omega
  rw [h.zero _ (List.getElem?_eq_getElem hlt)] at hl
  cases hl
 |succ m ih =>
  intro k hk hlt l hl
  rcases h.word k _ (List.getElem?_eq_getElem hlt) with ⟨_,_,e⟩|⟨a,b,_,hak,_,hb,e⟩
  ·rw [e] at hl;cases hl
  ·rw [e] at hl
   rcases List.mem_append.1 hl with h1|h1
   ·exact ih a (by omega) (by omega) l h1
   ·rw [List.mem_singleton.1 h1];exact List.mem_of_getElem? hb
theorem Bfs.words {d:Nat→Nat→List Nat} {start:List Nat} {goal:Nat→Bool} {L:List Nat} {N:Nat} {S:List Bool} {st:List Stp} {ws:List (List Nat)} {i j:Nat}(h:Bfs d start goal L N S st ws i j)(hL:Rise L) {a l:Nat} {fr:List Nat}(ha:a<st.length)(hl:l∈L) (k:Nat) (p:Stp)(hp:(st++[⟨a,l,fr⟩])[k]?=some p) :
  (p.parent = -1∧(ws++[ws.getD a []++[l]]).getD k []=[])∨∃ b:Nat,p.parent=(b:Int)∧b<k∧p.letter<6∧(ws++[ws.getD a []++[l]]).getD k []=(ws++[ws.getD a []++[l]]).getD b []++[p.letter]:=by
 rcases Nat.lt_trichotomy k st.length with h1|h1|h1
 ·rw [List.getElem?_append_left h1] at hp
  rw [zed _ (by rw [h.wl];exact h1)]
  rcases h.word k p hp with ⟨_,h2,h3⟩|⟨b,c,h2,h3,_,h4,h5⟩
  ·exact Or.inl ⟨h2,h3⟩
  ·exact Or.inr ⟨b,h2,h3,hL.1 _ (List.mem_of_getElem? h4),by rw [zed _ (by rw [h.wl];omega)];exact h5⟩
 ·rw [h1,List.getElem?_append_right (Nat.le_refl _),Nat.sub_self] at hp
  obtain rfl:=Option.some.inj hp
  refine Or.inr ⟨a,rfl,by omega,hL.1 _ hl,?_⟩
  rw [h1,← h.wl,zfy,zed _ (by rw [h.wl];exact ha)]
 ·rw [List.getElem?_eq_none (by simp;omega)] at hp
  cases hp
theorem Frm.out {T S:Nat→Prop} {a b c:World}(h:Frm T a b) (k:Frm S b c)(hS:∀ x,S x→T x):Frm T a c:=h.trans (k.mono fun x _ hx=>hS x hx)
set_option maxHeartbeats 16000000 in
set_option maxRecDepth 100000 in
theorem zec {w:World} {N kn kg m c q cL:Nat} {A AL:Option Addr} {capn capg:Array Value} {goal:Nat→Bool} {d:Nat→Nat→List Nat} {start L:List Nat} {D:Nat}
  (hA:zae w A m start) (hstart:∀ n∈start,n<N) (hm:m≤1099511627776) (hL:zae w AL q L) (hrise:Rise L) (hN:N≤16777216) (hD:D≤4096)
  (hinn:∀ args W,(callFunc kn args).run Tryz.prog W=.ok (.enter kn args) W) (hin:∀ args W,(callFunc kg args).run Tryz.prog W=.ok (.enter kg args) W)
  (hgoal:∀ W,Ext w W→∀ n,n<N→Calls Tryz.prog kg (#[.int .i64 (n:Nat)]++capg) W fun e W'=>e=.returned (.bool (goal n))∧Ext W W')
  (hd:∀ n l,n<N→l∈L→(d n l).length≤D∧∀ x∈d n l,x<N)
  (hnext:∀ W,Ext w W→∀ n l,n<N→l∈L→∀ (base:Nat) (A:Option Addr) (m c:Nat) (xs:List Nat),w.heap.size≤base→base≤W.heap.size→m≤1099511627776→W.ownsRow base 3 1 (.slice A m c) m (nats xs) →
   Calls Tryz.prog kn (#[.int .i64 (n:Nat),.int .i64 (l:Nat),.slice A m c]++capn) W fun e W'=>∃ A' c',e=.returned (.slice A' (xs++d n l).length c')∧W'.ownsRow base 3 1 (.slice A' (xs++d n l).length c') (xs++d n l).length (nats (xs++d n l))∧Frm (fun k=>(Value.slice A m c).ownBlock=some k) W W') :
  Calls Tryz.prog 127 #[.int .i64 (N:Nat),.slice A m c,.slice AL q cL,.func (.func kn) #[] capn,.func (.func kg) #[] capg] w (zL w d start goal L):=by
 have HA:=hide hA
 have Hstart:=hide hstart
 have Hgoal:=hide hgoal
 have Hnext:=hide hnext
 have Hd:=hide hd
 have hqm:q≤9223372036854775807:=hL.2.1
 clear hA hstart hgoal hnext hd
 go_enter Tryz.func127,Tryz.ntmps127
 have hwa:Ext w (w.alloc (.cells #[.func (.func kg) #[] capg] 70)):=(Ext.refl w).alloc _
 have hgx:=hide (Blk.new w 70 #[.func (.func kg) #[] capg])
 go_upto_region 4 with (at_make;refine zbE w _ rfl _ _ 25 rfl 4 _ 1 1 Tryz.underlying25 zba _ _ N rfl rfl hwa (by omega) (by unfold maxLen;omega) ?_;intro w1 hext1 hown1 hx1 hsz1)
 have hown2:w1.ownsRow w.heap.size 4 1 (.slice (some ⟨w.heap.size+1,0,none⟩) N N) N (zaz (List.replicate N false)):=by
  have h:=hown1
  rw [World.size_alloc] at h
  simpa [zaz,Value.cells,toList_madeCells_one] using h
 have hsea:=Sea.start hx1 hsz1 hgx.out hown2
 have hx2:Ext w ((w1.alloc (.cells #[.slice (some ⟨w.heap.size+1,0,none⟩) N N] 25)).alloc (.cells #[.slice none 0 0] 197)):=(hext1.alloc _).alloc _
 clear hown1 hown2 hx1 hsz1 hgx hext1 hwa
 generalize w1.heap.size+1=bt at *
 generalize w1.heap.size=bs at *
 generalize (w1.alloc (.cells #[.slice (some ⟨w.heap.size+1,0,none⟩) N N] 25)).alloc (.cells #[.slice none 0 0] 197)=w2 at *
 have hvs:=zfp (List.replicate N false) start (fun n hn=>by have:=Hstart.out n hn;simpa using this)
 cases hg:(vis (List.replicate N false) start).2.any goal
 ·have Hg:=hide hg
  have hB:=hide (Bfs.begin_ (d:=d) (L:=L) (goal:=goal) Hstart.out (fun x hx=>by
   cases hgx:goal x
   ·rfl
   ·rw [List.any_eq_true.2 ⟨x,hx,hgx⟩] at hg;cases hg))
  have hC:=hide ((Cnt.nil N).add (-1) 0 start)
  clear hg hvs
  go_wp2_with (go_at_call 180;refine (zfV (letter:=0) (parent := -1) hsea (HA.out.ext hx2) Hstart.out hm (by simp) hin Hgoal.out).mono ?_;rintro e w3 ⟨rfl,hx3,hsz3,vst,sts,hsea3,hcase⟩;rw [Hg.out];have hst:=hide (sts_add hcase);clear hcase)
  go_loopw [15,17,18,20] (fun i l r x wr=>∃ (k:Nat) (S:List Bool) (vst:Value) (sts:List (Stp × Value)) (ws:List (List Nat)),i=.int .i64 k∧k≤sts.length∧sts.length≤N∧Sea w wr bs w.heap.size bt (w.heap.size+1) N N (.func (.func kg) #[] capg) S vst sts∧Hid (Bfs d start goal L N S (sts.map Prod.fst) ws k 0)∧Hid (Cnt S (sts.map Prod.fst)))
   (fun i _ _ _ _=>N+1 - (intOf i).toNat)
  case atStart =>
   simp only [List.map_nil] at hst
   have hB':=hB.out
   have hC':=hC.out
   rw [← hst.out] at hB' hC'
   exact⟨0,_,vst,sts,_,rfl,Nat.zero_le _,by have:=hC'.steps hB'.some_;rw [hB'.len] at this;simpa using this,hsea3,hide hB',hide hC'⟩
  case round =>
   clear hsea3 hst hB hC hx3 hsz3
   clear vst sts
   obtain⟨k,S,vst,sts,ws,rfl,hk,hsN,hS,hB,hC⟩:=hrel
   obtain⟨Av,cv,rfl⟩:=zh hS.dt
   have cT:=hS.vt.cell 0
   by_cases hlt:k<sts.length
   ·have hcast:((k:Int)<(sts.length:Int)):=by omega
    go_wp2
    go_loopw [17,18,20,35] (fun _ _ _ i2 wi=>∃ (j:Nat) (S:List Bool) (vst:Value) (sts:List (Stp × Value)) (ws:List (List Nat)),i2=.int .i64 j∧j≤q∧k<sts.length∧sts.length≤N∧Sea w wi bs w.heap.size bt (w.heap.size+1) N N (.func (.func kg) #[] capg) S vst sts∧Hid (Bfs d start goal L N S (sts.map Prod.fst) ws k j)∧Hid (Cnt S (sts.map Prod.fst)))
     (fun _ _ _ i2 _=>q - (intOf i2).toNat)
    case atStart=>exact⟨0,S,_,sts,ws,rfl,Nat.zero_le _,hlt,hsN,hS,hB,hC⟩
    case round =>
     clear hS hB hC cT hlt hcast hk hsN
     rename World=>wi
     obtain⟨j,S,vst,sts,ws,rfl,hj,hk,hsN,hS,hB,hC⟩:=hrel
     by_cases hjq:j<q
     ·obtain⟨gl,ol,l,rfl,hxl,hcl⟩:=hL.at_ hjq
      have cL:wi.cell? ⟨gl,ol+j,none⟩=some (.int .i64 (l:Nat)):=hS.ext.cell_some hcl
      have hlL:=hide (List.mem_of_getElem? hxl.out)
      obtain⟨⟨⟨pp,pl,pn⟩,vk⟩,hpk⟩:∃ x,Hid (sts[k]?=some x):=⟨_,List.getElem?_eq_getElem hk⟩
      obtain⟨Ak,ck,rfl,hnk⟩:=hS.nd k _ vk hpk.out
      dsimp only at hnk hpk
      have hpm:=hide (show (sts.map Prod.fst)[k]?=some ⟨pp,pl,pn⟩ by rw [List.getElem?_map,hpk.out];rfl)
      have hne:=List.length_pos_iff.2 (hB.out.some_ k _ hpm.out)
      have hnN:pn.length≤N:=by have:=hC.out.nodes hpm.out;rw [hB.out.len] at this;exact this
      have hsmall:=hide (hB.out.small k _ hpm.out)
      dsimp only at hne hsmall
      have cV:wi.cell? ⟨bt,0,none⟩=some vst:=hS.vt.cell 0
      obtain⟨Av,cv,rfl⟩:=zh hS.dt
      obtain⟨gv,rfl⟩:∃ gv,Av=some ⟨gv,0,none⟩:=by
       rcases hS.dt.2 with ⟨_,hh⟩|⟨g,cap,cur,hv,_⟩
       ·omega
       ·exact⟨g,by injection hv⟩
      obtain⟨mk,hmk⟩:∃ mk,Hid (mk=pn.length):=⟨_,rfl⟩
      have cK:wi.cell? ⟨gv,k*3+2,none⟩=some (.slice Ak mk ck):=by
       rw [hS.dt.cellAt _ (by omega),hmk.out]
       exact (zfR hpk.out).2.2
      rw [← hmk.out] at hnk hne hnN
      obtain⟨gk,ok,_,rfl,_,_⟩:=hnk.at_ hne
      have Hnk:=hide hnk
      have h1:=hS.vs.lt
      have h2:w.heap.size<wi.heap.size:=by obtain⟨t,hh⟩:=hS.vg;exact hh.lt
      have h3:=hS.vt.lt
      have h4:=hS.gs_lt.2
      have h0:=hS.ext.size
      have HnI:=hide (show ∀ b,wi.heap.size≤b→∀ cs,wi.heap[b]?≠some (.cells cs 3 (0,0)) from fun b hb cs hc=>by
       have:=(Array.getElem?_eq_some_iff.1 hc).1
       omega)
      have hvl:=(hS.dt.lt gv rfl).2
      have HSea:=hide (fun W (hW:Frm (fun b=>wi.heap.size≤b) wi W)=>hS.far hW (fun _ h=>h) h1 h2 h3 h4 (fun b hb=>by have:gv=b:=(by simpa [Value.ownBlock] using hb);omega) h0 (hS.nd.frm hW HnI.out))
      have hkc:(k:Int)<(sts.length:Int):=by omega
      have hjc:(j:Int)<(q:Int):=by omega
      clear hnk hcl hS h1 h3 h4
      go_wp2_with fail
      go_loopw [18,20,45] (fun v _ i3 wr=>∃ i:Nat,i3=.int .i64 i∧i≤mk∧wr.ownsRow wi.heap.size 3 1 v (reach d l (pn.take i)).length (nats (reach d l (pn.take i)))∧Frm (fun b=>wi.heap.size≤b) wi wr) (fun _ _ i3 _=>mk - (intOf i3).toNat)
      case atStart=>exact⟨0,rfl,Nat.zero_le _,World.ownsRow_nil _ _ _ _,Frm.refl _ _⟩
      case round =>
       obtain⟨i,rfl,hi,hown,hfr⟩:=hrel
       have hSr:=hide (HSea.out wr hfr)
       have hsz:=hfr.size
       have hrl:(reach d l (pn.take i)).length≤1099511627776 - 4096:=by
        have e1:=reach_len (d:=d) (l:=l) (D:=D) (ns:=pn.take i) (fun n hn=>(Hd.out n l (hsmall.out n (List.mem_of_mem_take hn)) hlL.out).1)
        have e2:=Nat.mul_le_mul (show (pn.take i).length≤16777216 by rw [List.length_take];omega) hD
        omega
       obtain⟨A0,c0,rfl⟩:=zh hown
       clear cL cV cK
       by_cases hil:i<mk
       ·obtain⟨g',o',n,hA',hn,cN⟩:=(Hnk.out.frm hfr HnI.out).at_ hil
        obtain⟨rfl,rfl⟩:gk=g'∧ok=o':=by injection hA' with e;injection e with e1 e2;exact⟨e1,e2⟩
        have hnlt:=hsmall.out n (List.mem_of_getElem? hn.out)
        have hnx:=hide (Hnext.out wr hSr.out.ext n l hnlt hlL.out wi.heap.size A0 _ c0 _ h0 hsz (by omega) hown)
        clear hA'
        go_wp2_with fail
        refine hnx.out.mono ?_
        rintro e w4 ⟨A',c',rfl,hown4,hf4⟩
        have hlow:=hide (fun b (hb:(Value.slice A0 (reach d l (pn.take i)).length c0).ownBlock=some b)=>(hown.lt b hb).1)
        go_wp2_with fail
        go_roundw
        case rel=>exact⟨i+1,by go_num,by omega,by rw [reach_take hn.out];rw [List.length_append] at hown4 ⊢;exact hown4,hfr.out hf4 hlow.out⟩
        case measure=>simp [intOf];omega
       ·obtain rfl:i=mk:=by omega
        have htk:pn.take i=pn:=List.take_of_length_le (by have:=hmk.out;omega)
        rw [htk] at hown hrl ⊢
        have hrs:=hide (fun x (hx:x∈reach d l pn)=>by
         obtain⟨n,hn,hx⟩:=zfD.1 hx
         exact (Hd.out n l (hsmall.out n hn) hlL.out).2 x hx)
        have hvis:=hide (zfV (letter:=l) (parent:=(k:Int)) (c:=c0) hSr.out (zae.own hown) hrs.out (by omega) (by omega) hin Hgoal.out)
        cases hg:(vis S (reach d l pn)).2.any goal
        ·have Hg:=hide hg
         have hB':=hide (hB.out.step hrise hpm.out hxl.out (fun x=>zfD) hrs.out (fun x hx=>by
          cases hgx:goal x
          ·rfl
          ·rw [List.any_eq_true.2 ⟨x,hx,hgx⟩] at hg;cases hg))
         have hC':=hide (hC.out.add (k:Int) l (reach d l pn))
         clear hg
         go_wp2_with fail
         refine hvis.out.mono ?_
         rintro e w4 ⟨rfl,hx4,hsz4,vst4,sts4,hsea4,hcase⟩
         rw [Hg.out]
         have hst:=hide (sts_add hcase)
         have hlen:sts.length≤sts4.length:=by
          rcases hcase with ⟨_,rfl⟩|⟨_,v,rfl⟩<;>simp
         rw [← hst.out] at hB' hC'
         go_wp2_with fail
         go_roundw
         case rel=>exact⟨j+1,_,vst4,sts4,_,by go_num,by omega,by omega,(by have:=hC'.out.steps hB'.out.some_;rw [hB'.out.len] at this;simpa using this),hsea4,hB',hC'⟩
         case measure=>simp [intOf];omega
        ·have Hg:=hide hg
         obtain⟨x,hx,hgx⟩:=List.any_eq_true.1 hg
         have hxr:=((zfp S (reach d l pn) (fun n hn=>by rw [hB.out.len];exact hrs.out n hn)).2.2 x).1 hx
         obtain⟨n,hn,hxd⟩:=zfD.1 hxr.1
         have hF:=hide (show Found d start goal L (ws.getD k []++[l]) from ⟨fun m hm=>(by
          rcases List.mem_append.1 hm with h|h
          ·exact hB.out.letters k k (Nat.le_refl _) (by simpa using hk) m h
          ·rw [List.mem_singleton.1 h];exact hlL.out),⟨x,(hB.out.goes k _ hpm.out n hn).snoc hxd,hgx⟩,fun u hu hlt y hy=>hB.out.found hrise (by simpa using hk) hxl.out hu hlt hy⟩)
         clear hg hgx hxr hxd
         go_wp2_with fail
         refine hvis.out.mono ?_
         rintro e w4 ⟨rfl,hx4,hsz4,vst4,sts4,hsea4,hcase⟩
         rw [Hg.out]
         obtain⟨_,v4,hst4⟩:(vis S (reach d l pn)).2≠[]∧∃ v,sts4=sts++[(⟨(k:Int),l,(vis S (reach d l pn)).2⟩,v)]:=by
          rcases hcase with ⟨h,_⟩|h
          ·rw [h] at hx;cases hx
          ·exact h
         have hl4:sts4.length=sts.length+1:=by rw [hst4];simp
         obtain⟨A4,c4,rfl⟩:=zh hsea4.dt
         have cV4:=hsea4.vt.cell 0
         have hpw:=hide (show Calls Tryz.prog 181 #[.slice A4 sts4.length c4] w4 fun e w'=>e=.returned (.string (strOfNums (lbs (ws.getD k []++[l]))))∧Ext w4 w' by
          have key:=pathWord_any (ws:=ws++[ws.getD k []++[l]]) hsea4.dt rfl (by omega) (by omega) (fun i p v hi=>by
           have hm:(sts4.map Prod.fst)[i]?=some p:=by rw [List.getElem?_map,hi];rfl
           rw [hst4,List.map_append] at hm
           exact hB.out.words hrise (by simpa using hk) hlL.out i p hm)
          rw [hl4,Nat.add_sub_cancel,show sts.length=ws.length by have:=hB.out.wl;simpa using this.symm,zfy] at key
          rw [hl4,show sts.length=ws.length by have:=hB.out.wl;simpa using this.symm]
          exact key)
         clear hx hcase hst4 hl4
         go_wp2_with fail
         refine hpw.out.mono ?_
         rintro e w5 ⟨rfl,hx5⟩
         go_wp2_with fail
         go_ret2
         exact⟨hx4.trans hx5,Or.inl ⟨_,rfl,hF.out⟩⟩
     ·obtain rfl:j=q:=by omega
      have hql:=hL.1
      have hB2:=hide (hB.out.row (by omega))
      go_wp2
      go_roundw
      case rel=>exact⟨k+1,S,vst,sts,ws,by go_num,by omega,hsN,hS,hB2,hC⟩
      case measure=>simp [intOf];omega
   ·obtain rfl:k=sts.length:=by omega
    have hlost:=hide (show Lost d start goal L from fun v hv x hx=>hB.out.none (by simp) hv hx)
    have hxr:=hS.ext
    go_wp2
    go_ret2
    exact⟨hxr,Or.inr ⟨rfl,hlost.out⟩⟩
 ·have Hg:=hide hg
  obtain⟨x,hx,hgx⟩:=List.any_eq_true.1 hg
  have hF:=hide (show Found d start goal L [] from ⟨fun l hl=>(by cases hl),⟨x,.nil ((hvs.2.2 x).1 hx).1,hgx⟩,fun u _ hu=>by rw [zev] at hu;omega⟩)
  clear hg hvs
  go_wp2_with (go_at_call 180;refine (zfV (letter:=0) (parent := -1) hsea (HA.out.ext hx2) Hstart.out hm (by simp) hin Hgoal.out).mono ?_;rintro e w' ⟨rfl,hx3,_⟩;rw [Hg.out])
  go_ret2
  exact⟨hx3,Or.inl ⟨[],rfl,hF.out⟩⟩
set_option maxHeartbeats 4000000
theorem zeM (a:Nat):Rise (letters a 6):=by
 refine⟨fun l hl=>(zcJ.1 hl).1,fun i j x y hx hy hij=>?_⟩
 have h1:(letters a 6).Pairwise (·<·):=List.Pairwise.filter _ List.pairwise_lt_range
 obtain⟨hi,rfl⟩:=List.getElem?_eq_some_iff.1 hx
 obtain⟨hj,rfl⟩:=List.getElem?_eq_some_iff.1 hy
 exact List.pairwise_iff_getElem.1 h1 i j hi hj hij
theorem Blk.ne {w:World} {a b:Nat} {t u:TypeId} {cs ds:Array Value}(h:Blk w a t cs)(h':Blk w b u ds)(ht:t≠u):a≠b:=by
 rintro rfl
 unfold Blk at h h'
 rw [h] at h'
 injection h' with h'
 injection h' with _ h2
 exact ht h2
theorem zcf {w:World} {g x:Nat}(h:Blk w g 3 #[.int .i64 (x:Nat)]):zae w (some ⟨g,0,none⟩) 1 [x]:=by
 refine⟨rfl,by omega,fun _=>⟨g,0,_,rfl,h,fun j y hj=>?_⟩⟩
 cases j with
 |zero =>
  obtain rfl:=Option.some.inj hj
  rw [h.cell];rfl
 |succ j=>simp at hj
theorem rising_pw {es:List Edg}:Rising es↔es.Pairwise (fun x y=>ltE x y=true):=by
 rw [List.pairwise_iff_getElem]
 constructor
 ·intro h i j hi hj hij
  exact h i j _ _ (List.getElem?_eq_getElem hi) (List.getElem?_eq_getElem hj) hij
 ·intro h a b x y hx hy hab
  obtain⟨ha,rfl⟩:=List.getElem?_eq_some_iff.1 hx
  obtain⟨hb,rfl⟩:=List.getElem?_eq_some_iff.1 hy
  exact h a b ha hb hab
theorem zgp (a k:Nat):(letters a k).Pairwise (·<·):=List.Pairwise.filter _ List.pairwise_lt_range
set_option maxHeartbeats 2000000
theorem asc_ext:∀ {l m:List Nat},l.Pairwise (·<·)→m.Pairwise (·<·)→(∀ x,x∈l↔x∈m)→l=m:=by
 intro l
 induction l with
 |nil =>
  intro m _ _ h
  cases m with
  |nil=>rfl
  |cons y s=>exact absurd ((h y).2 (by simp)) (by simp)
 |cons x r ih =>
  intro m hl hm h
  cases m with
  |nil=>exact absurd ((h x).1 (by simp)) (by simp)
  |cons y s =>
   rw [List.pairwise_cons] at hl hm
   have e:x=y:=by
    have h1:=(h x).1 (by simp)
    have h2:=(h y).2 (by simp)
    rcases List.mem_cons.1 h1 with h1|h1
    ·exact h1
    ·rcases List.mem_cons.1 h2 with h2|h2
     ·exact h2.symm
     ·have:=hl.1 y h2
      have:=hm.1 x h1
      omega
   subst e
   rw [ih hl.2 hm.2 fun z=>?_]
   have hz:=h z
   simp only [List.mem_cons] at hz
   constructor
   ·intro h1
    have:=hl.1 z h1
    rcases hz.1 (Or.inr h1) with h2|h2
    ·omega
    ·exact h2
   ·intro h1
    have:=hm.1 z h1
    rcases hz.2 (Or.inr h1) with h2|h2
    ·omega
    ·exact h2
def chE (es:List Edg) (q l:Nat):List Nat:=(es.filter fun e=>e.fr==(q:Int)&&e.le==(l:Int)).map fun e=>e.ta.toNat
theorem chE_cho {p:Nat} {es:List Edg}(hf:Few p es)(hp:p≤16)(hr:Rising es) (q l:Nat):chE es q l=letters (succ es q l) 32:=by
 refine asc_ext ?_ (zgp _ _) fun x=>?_
 ·have h1:=rising_pw.1 hr
  rw [chE,List.pairwise_map,List.pairwise_filter]
  refine h1.imp_of_mem fun {a b} ha hb hab h2 h3=>?_
  simp only [Bool.and_eq_true,beq_iff_eq] at h2 h3
  have:=ltE_iff.1 hab
  have:=hf a ha
  have:=hf b hb
  omega
 ·rw [zD,zds,chE,List.mem_map]
  simp only [List.mem_filter,Bool.and_eq_true,beq_iff_eq]
  constructor
  ·rintro ⟨e,⟨h1,h2⟩,rfl⟩
   have:=hf e h1
   exact⟨by omega,e,h1,h2,rfl⟩
  ·rintro ⟨_,e,h1,h2,rfl⟩
   exact⟨e,⟨h1,h2⟩,rfl⟩
theorem chE_take {es:List Edg} {k:Nat} {x:Edg}(h:es[k]?=some x) (q l:Nat):chE (es.take (k+1)) q l=chE (es.take k) q l++if x.fr=(q:Int)∧x.le=(l:Int) then [x.ta.toNat] else []:=by
 rw [List.take_add_one,h]
 unfold chE
 rw [Option.toList_some,List.filter_append,List.map_append]
 congr 1
 by_cases hc:x.fr=(q:Int)∧x.le=(l:Int)
 ·rw [if_pos hc];simp [hc]
 ·rw [if_neg hc]
  have:(x.fr==(q:Int)&&x.le==(l:Int))=false:=by
   rw [Bool.eq_false_iff]
   intro h
   simp only [Bool.and_eq_true,beq_iff_eq] at h
   exact hc h
  simp [this]
theorem chE_len {p:Nat} {es:List Edg}(hf:Few p es)(hp:p≤16)(hr:Rising es) (q l k:Nat):(chE (es.take k) q l).length≤16:=by
 have h1:(chE (es.take k) q l).Sublist (chE es q l):=((List.take_sublist k es).filter _).map _
 refine Nat.le_trans h1.length_le (Nat.le_trans (zfE (p:=p) ?_ ?_) hp)
 ·rw [chE_cho hf hp hr];exact zeh _ _
 ·intro x hx
  obtain⟨e,he,rfl⟩:=List.mem_map.1 hx
  have:=hf e (List.mem_filter.1 he).1
  omega
theorem ret_one {w W:World} {y g:Nat}(hx:Ext w W)(hb:Blk W g 3 #[.int .i64 (y:Nat)])(hg:w.heap.size≤g):zbr w [y] (.returned (.slice (some ⟨g,0,none⟩) 1 1)) W:=
 ⟨some ⟨g,0,none⟩,1,rfl,⟨rfl,.inr ⟨g,1,_,rfl,hg,hb,by simp [nats,maxLen]⟩⟩,hx⟩
set_option maxRecDepth 100000 in
theorem zgi {PA AA:Option Addr} {pn pc an ac:Nat} {sv:Value} {L K G:Int} {ss:List Sys} {us:List Aut} {w:World} {i q l:Nat} {m:Mem}(h:zdU w PA pn AA an ss us)(hok:zcF ss us)(hm:(mems ss us)[i]?=some m)(hq:q<m.1)(hl:l<6) :
  Calls Tryz.prog 220 #[.agg #[.slice PA pn pc,.slice AA an ac,sv,.int .i64 L,.int .i64 K,.int .i64 G],.int .i64 i,.int .i64 q,.int .i64 l] w (zbr w (m.2 q l)):=by
 have hw1:Ext w (w.alloc (.cells #[.slice PA pn pc,.slice AA an ac,sv,.int .i64 L,.int .i64 K,.int .i64 G] 166)):=(Ext.refl w).alloc _
 have hb1:=Blk.new w 166 #[.slice PA pn pc,.slice AA an ac,sv,.int .i64 L,.int .i64 K,.int .i64 G]
 have HN:=hide (fun W (hW:Ext w W)=>h.ext hW)
 have hpn:Hid (pn=ss.length):=by obtain⟨_,_,h1⟩:=h.sys;exact h1.1
 have han:Hid (an=us.length):=by obtain⟨_,_,h1⟩:=h.aut;exact h1.1
 have hp3:pn≤3:=by rw [hpn.out];exact hok.few
 have ha2:an≤2:=by rw [han.out];exact hok.few'
 by_cases hip:i<pn
 ·have hs:ss[i]?=some (ss[i]'(by rw [← hpn.out];exact hip)):=List.getElem?_eq_getElem _
  generalize ss[i]'(by rw [← hpn.out];exact hip)=s at hs
  obtain rfl:m=sMem s:=by
   rw [mems,List.getElem?_append_left (by simp;have:=hpn.out;omega),List.getElem?_map,hs] at hm
   exact (Option.some.inj hm).symm
  have hv:=hok.sys s (List.mem_of_getElem? hs)
  obtain⟨hal,hst,_,hris⟩:=valid_iff.1 hv
  obtain⟨p,hp,hp1,hp2,hf⟩:=zcE hv
  obtain⟨al,ha⟩:∃ al:Nat,Hid (s.al=al):=⟨s.al.toNat,by unfold Hid;omega⟩
  have hsm:Sm al:=by have:=ha.out;unfold Sm;omega
  have hres:=hide (show (sMem s).2 q l=if al.testBit l then chE s.edges q l else [q] by
   rw [chE_cho hf hp2 hris]
   simp only [sMem,cho]
   rw [ha.out,Int.toNat_natCast])
  have Hs:=hide hs
  have H16:=hide (chE_len hf hp2 hris q l)
  have Hf:=hide hf
  clear hs hv hal hst hris hf hm hok h hq
  rw [hres.out]
  cases hb:al.testBit l
  ·have Hb:=hide hb
   clear hb
   go_enter Tryz.func220,Tryz.ntmps220
   go_upto_region 1 with fail
   generalize w.alloc (.cells #[.slice PA pn pc,.slice AA an ac,sv,.int .i64 L,.int .i64 K,.int .i64 G] 166)=w1 at *
   have c0:=hb1.cell
   obtain⟨lo,hi,hsl⟩:=(HN.out w1 hw1).sys
   obtain⟨b,o,s',B,n,c',rfl,_,_,hs',e0,e1,e2,hsx⟩:=hsl.sys hip
   obtain rfl:s=s':=by have:=hs'.out;rw [Hs.out] at this;exact Option.some.inj this
   rw [ha.out] at e0
   clear e1 hsl hsx
   go_wp2_with (go_at_call 147;with_reducible refine (zad al l hsm _ (by omega)).mono ?_;rw [Hb.out];rintro e w' ⟨rfl,rfl⟩)
   go_ret
   exact ret_one (hw1.alloc _) (Blk.new _ _ _) hw1.size
  ·have Hb:=hide hb
   clear hb
   simp only [if_true]
   go_enter Tryz.func220,Tryz.ntmps220
   go_upto_region 1 with fail
   generalize w.alloc (.cells #[.slice PA pn pc,.slice AA an ac,sv,.int .i64 L,.int .i64 K,.int .i64 G] 166)=w1 at *
   have c0:=hb1.cell
   obtain⟨lo,hi,hsl⟩:=(HN.out w1 hw1).sys
   obtain⟨b,o,s',B,n,c',rfl,_,_,hs',e0,e1,e2,hsx⟩:=hsl.sys hip
   obtain rfl:s=s':=by have:=hs'.out;rw [Hs.out] at this;exact Option.some.inj this
   rw [ha.out] at e0
   have Hnl:=hide hsx.1
   have HR:=hide (fun W (hW:Ext w1 W)=>hsx.2.ext hW)
   have hnm:=hsx.2.len
   clear e1 hsl hsx
   go_upto_region 6 with (go_at_call 147;with_reducible refine (zad al l hsm _ (by omega)).mono ?_;rw [Hb.out];rintro e w' ⟨rfl,rfl⟩)
   have hx2:=(Ext.refl w1).alloc (.cells #[] 3)
   have hsz2:w.heap.size≤w1.heap.size:=hw1.size
   have hown2:=World.ownsRow_lit (base:=w1.heap.size) (e:=3) (size:=1) w1 #[] 0 (Nat.le_refl _) (by unfold maxLen;omega) rfl
   have c0':=(hb1.ext hx2).cell
   have e2':=hx2.cell_some e2
   generalize w1.alloc (.cells #[] 3)=w2 at *
   clear c0 e0 e2
   go_wp2_with fail
   go_loopw [9,11] (fun v j wr=>∃ k:Nat,k≤n∧j=.int .i64 k∧wr.ownsRow w1.heap.size 3 1 v (chE (s.edges.take k) q l).length (nats (chE (s.edges.take k) q l))∧Ext w1 wr) (fun _ j _=>n - (intOf j).toNat)
   case atStart=>exact⟨0,Nat.zero_le _,rfl,hown2,hx2⟩
   case round =>
    clear hown2 c0' e2' hx2
    obtain⟨k,hk,rfl,hown,hx⟩:=hrel
    by_cases hlt:k<n
    ·obtain⟨b',o',x,rfl,_,_,hxx,d0,d1,d2⟩:=(HR.out wr hx).edge hlt
     obtain⟨⟨f0,f1⟩,⟨l0,l1⟩,⟨t0,t1⟩⟩:=Hf.out x (List.mem_of_getElem? hxx.out)
     have Htk:=hide (chE_take hxx.out q l)
     have hck':=H16.out k
     by_cases hfr:x.fr=(q:Int)
     ·by_cases hle:x.le=(l:Int)
      ·obtain⟨t,ht⟩:∃ t:Nat,x.ta=t:=⟨x.ta.toNat,by omega⟩
       rw [hfr] at d0
       rw [hle] at d1
       rw [ht] at d2
       have Htk2:=hide (show chE (s.edges.take (k+1)) q l=chE (s.edges.take k) q l++[t] by rw [Htk.out,if_pos ⟨hfr,hle⟩,ht];rfl)
       clear hfr hle f0 f1 l0 l1 t0 t1 ht Htk
       generalize chE (s.edges.take k) q l=cs at *
       go_wp2_with (at_builtin;refine zP w1 wr rfl _ _ _ rfl 3 _ 1 8 Tryz.underlying71 zY rfl (by decide) u9 _ _ _ _ rfl rfl hx hown rfl (zaZ _) (by unfold maxLen;omega) (by omega) ?_;intro v' w5 hext5 hown5 hg5 hat5)
       go_roundw
       case rel=>exact⟨k+1,by omega,by go_num,by rw [Htk2.out,List.length_append,zdb];exact hown5,hext5⟩
       case measure=>simp [intOf];omega
      ·have hne:(x.le==(l:Int))=false:=by simp;omega
       have Htk2:=hide (show chE (s.edges.take (k+1)) q l=chE (s.edges.take k) q l by rw [Htk.out,if_neg (fun h=>hle h.2),List.append_nil])
       rw [hfr] at d0
       clear hfr hle f0 f1 l0 l1 t0 t1 Htk
       go_wp2_with fail
       go_roundw
       case rel=>exact⟨k+1,by omega,by go_num,by rw [Htk2.out];exact hown,hx⟩
       case measure=>simp [intOf];omega
     ·have hne:(x.fr==(q:Int))=false:=by simp;omega
      have Htk2:=hide (show chE (s.edges.take (k+1)) q l=chE (s.edges.take k) q l by rw [Htk.out,if_neg (fun h=>hfr h.1),List.append_nil])
      clear hfr f0 f1 l0 l1 t0 t1 Htk
      go_wp2_with fail
      go_roundw
      case rel=>exact⟨k+1,by omega,by go_num,by rw [Htk2.out];exact hown,hx⟩
      case measure=>simp [intOf];omega
    ·obtain rfl:n=k:=by omega
     have hfin:=hide (show wr.ownsRow w.heap.size 3 1 u9 (chE s.edges q l).length (nats (chE s.edges q l)) by
      rw [List.take_of_length_le (by have:=Hnl.out;omega)] at hown
      exact zn hown hsz2)
     obtain⟨A5,c5,rfl⟩:=zh hfin.out
     have hxw:=hw1.trans hx
     clear hown
     go_wp2
     go_ret
     exact⟨_,_,rfl,hfin.out,hxw⟩
 ·obtain⟨j,hj⟩:∃ j,i=pn+j:=⟨i - pn,by omega⟩
  subst hj
  have hmj:us[j]?.map aMem=some m:=by
   rw [mems,List.getElem?_append_right (by simp;have:=hpn.out;omega),List.getElem?_map] at hm
   rw [← hm]
   congr 2
   simp;have:=hpn.out;omega
  obtain⟨a,ha,rfl⟩:=Option.map_eq_some_iff.1 hmj
  have hja:j<an:=by rw [han.out];exact (List.getElem?_eq_some_iff.1 ha).1
  have hva:=hide (hok.aut a (List.mem_of_getElem? ha))
  have Ha:=hide ha
  have Hq:=hide (show q<a.next.length from hq)
  clear hm hmj ha hok h hq
  change Calls _ _ _ _ (zbr w [aGo a q l])
  go_enter Tryz.func220,Tryz.ntmps220
  go_upto_region 1 with fail
  generalize w.alloc (.cells #[.slice PA pn pc,.slice AA an ac,sv,.int .i64 L,.int .i64 K,.int .i64 G] 166)=w1 at *
  have c0:=hb1.cell
  obtain⟨lo,hi,hal⟩:=(HN.out w1 hw1).aut
  obtain⟨b,o,a',B,m,c,B',m',c',rfl,ha',e0,e1,e2,hat⟩:=hal.aut hja
  obtain rfl:a=a':=by have:=ha'.out;rw [Ha.out] at this;exact Option.some.inj this
  have hge:¬ ((pn+j:Nat):Int)<(pn:Int):=by omega
  have hsb:((pn+j:Nat):Int) - (pn:Int)=(j:Int):=by omega
  have Hat:=hide hat
  clear hal hat
  go_wp2_with (go_at_call 198;with_reducible refine (zcA Hat.out hva.out Hq.out hl).mono ?_;rintro e w5 ⟨rfl,hx5⟩)
  go_ret
  exact ret_one ((hw1.trans hx5).alloc _) (Blk.new _ _ _) ((hw1.trans hx5).size)
set_option maxHeartbeats 4000000
theorem zfd (n:Nat)(h:n<9223372036854775808):IntKind.i64.wrap (n:Int)=(n:Int):=by rw [IntKind.wrap_i64];omega
theorem chs_fst (ms:List Mem) (x l:Nat):(chs ms x l).map Prod.fst=ms.map Prod.fst:=by
 induction ms with
 |nil=>rfl
 |cons m r ih=>simp [chs,ih]
theorem zcF.choices {ss:List Sys} {us:List Aut}(h:zcF ss us) {m:Mem}(hm:m∈mems ss us) {q l:Nat}(hq:q<m.1)(hl:l<6):(∀ x∈m.2 q l,x<m.1)∧(m.2 q l).length≤m.1:=by
 refine⟨(h.ok m hm).2 q l hq hl,?_⟩
 rcases List.mem_append.1 hm with h1|h1
 ·obtain⟨s,hs,rfl⟩:=List.mem_map.1 h1
  exact cho_len (zci (h.sys s hs)) hq
 ·obtain⟨a,ha,rfl⟩:=List.mem_map.1 h1
  have:=(zi (h.aut a ha)).2.1.1
  simp only [aMem]
  simpa using this
theorem zcF.fwd_ {ss:List Sys} {us:List Aut}(h:zcF ss us) (x:Nat) {l:Nat}(hl:l<6) (k:Nat):(fwd ((chs (mems ss us) x l).take k)).length≤1048576∧∀ y∈fwd ((chs (mems ss us) x l).take k),y<1048576:=by
 have hc:∀ c∈(chs (mems ss us) x l).take k,(∀ y∈c.2,y<c.1)∧c.2.length≤c.1:=by
  intro c hc
  obtain⟨i,hi⟩:=List.getElem?_of_mem (List.mem_of_mem_take hc)
  have hil:=(List.getElem?_eq_some_iff.1 hi).1
  rw [zey] at hil
  have hm:(mems ss us)[i]?=some (mems ss us)[i]:=List.getElem?_eq_getElem hil
  rw [chs_get hm] at hi
  obtain rfl:=Option.some.inj hi
  have hmm:=List.getElem_mem hil
  exact h.choices hmm (Nat.mod_lt _ (h.ok _ hmm).1) hl
 have hp:=(h.total (((chs (mems ss us) x l).take k).map Prod.fst) (by rw [← zei,← chs_fst _ x l];exact (List.take_sublist _ _).map _)).2
 refine⟨Nat.le_trans (fwd_len fun c hc'=>(hc c hc').2) hp,fun y hy=>Nat.lt_of_lt_of_le (fwd_lt (fun c hc'=>(hc c hc').1) y hy) hp⟩
set_option maxRecDepth 100000 in
theorem spec_l4Nexts {PA AA SA TA:Option Addr} {pn pc an ac n sc tc lo hi lo' hi':Nat} {sv:Value} {L K G:Int} {ss:List Sys} {us:List Aut} {w:World} {x l:Nat}(h:zdU w PA pn AA an ss us)(hok:zcF ss us)(hS:Lst NatP w lo hi SA (szs ss us))(hT:Lst NatP w lo' hi' TA (dec (szs ss us) x))(hn:(szs ss us).length=n)(hl:l<6) :
  Calls Tryz.prog 211 #[.agg #[.slice PA pn pc,.slice AA an ac,sv,.int .i64 L,.int .i64 K,.int .i64 G],.slice SA n sc,.slice TA n tc,.int .i64 l] w (zbr w (pnx (mems ss us) x l)):=by
 have hw1:Ext w (w.alloc (.cells #[.slice PA pn pc,.slice AA an ac,sv,.int .i64 L,.int .i64 K,.int .i64 G] 166)):=(Ext.refl w).alloc _
 have hb1:=Blk.new w 166 #[.slice PA pn pc,.slice AA an ac,sv,.int .i64 L,.int .i64 K,.int .i64 G]
 have HN:=hide (fun W (hW:Ext w W)=>h.ext hW)
 have HS:=hide (fun W (hW:Ext w W)=>hS.ext NatP.ok hW)
 have HT:=hide (fun W (hW:Ext w W)=>hT.ext NatP.ok hW)
 have Hok:=hide hok
 have hn5:n≤5:=by rw [← hn];exact hok.len
 have hKl:(chs (mems ss us) x l).length=n:=by rw [zey,← hn,← zei,List.length_map]
 have Hfw:=hide (hok.fwd_ x hl)
 have Hget:=hide (show ∀ k,k<n→∃ m,(mems ss us)[k]?=some m∧(szs ss us)[k]?=some m.1∧(dec (szs ss us) x)[k]?=some (x / zB ((mems ss us).drop (k+1)) % m.1)∧(chs (mems ss us) x l)[k]?=some (m.1,m.2 (x / zB ((mems ss us).drop (k+1)) % m.1) l)∧1≤m.1∧m.1≤16 from fun k hk=>by
  have hkl:k<(mems ss us).length:=by rw [← zey _ x l,hKl];exact hk
  have hm:(mems ss us)[k]?=some (mems ss us)[k]:=List.getElem?_eq_getElem hkl
  have hz:(szs ss us)[k]?=some ((mems ss us)[k]).1:=by rw [← zei,List.getElem?_map,hm];rfl
  refine⟨_,hm,hz,?_,chs_get hm,hok.le16 _ (List.mem_of_getElem? hz)⟩
  rw [zgC hz,← zei,← List.map_drop]
  rfl)
 have Hfin:=hide (fwd_pnx (mems ss us) x l)
 have Hch:=hide (fun (m:Mem) (hm:m∈mems ss us) (q l:Nat) (hq:q<m.1) (hl:l<6)=>hok.choices hm hq hl)
 clear h hS hT hok
 generalize hK:chs (mems ss us) x l=KK at *
 have Hlen:=hide hKl
 have HSl:=hide hn
 clear hK hKl hn
 go_enter Tryz.func211,Tryz.ntmps211
 go_upto_region 1 with fail
 generalize w.alloc (.cells #[.slice PA pn pc,.slice AA an ac,sv,.int .i64 L,.int .i64 K,.int .i64 G] 166)=w1 at *
 go_upto_region 2 with fail
 have hx2:=(Ext.refl w1).alloc (.cells #[.int .i64 0] 3)
 have hsz2:w.heap.size≤w1.heap.size:=hw1.size
 have hown2:=World.ownsRow_lit (base:=w1.heap.size) (e:=3) (size:=1) w1 #[.int .i64 0] 1 (Nat.le_refl _) (by unfold maxLen;omega) rfl
 generalize hg1:(some ⟨w1.heap.size,0,none⟩:Option Addr)=A1 at *
 clear hg1
 generalize w1.alloc (.cells #[.int .i64 0] 3)=w2 at *
 go_wp2_with fail
 go_loopw [9,10,11,12,13,14] (fun v i _ _ _ _ wr=>∃ (k:Nat) (out:List Nat),i=.int .i64 k∧k≤n∧Hid (out=fwd (KK.take k))∧wr.ownsRow w1.heap.size 3 1 v out.length (nats out)∧Ext w1 wr) (fun _ i _ _ _ _ _=>n - (intOf i).toNat)
 case atStart=>exact⟨0,[0],rfl,Nat.zero_le _,rfl,by simpa [nats] using hown2,hx2⟩
 case round =>
  clear hown2 hx2
  obtain⟨k,out,rfl,hk,hout,hown,hx⟩:=hrel
  obtain⟨A0,c0,rfl⟩:=zh hown
  by_cases hlt:k<n
  ·obtain⟨m,hm,hz,hd,hc,hm1,hm16⟩:=Hget.out k hlt
   have Hm:=hide hm
   have Hc:=hide hc
   obtain⟨ho1,ho2⟩:=Hfw.out k
   rw [← hout.out] at ho1 ho2
   have Ho2:=hide ho2
   obtain⟨q,hq⟩:∃ q:Nat,Hid (x / zB ((mems ss us).drop (k+1)) % m.1=q):=⟨_,rfl⟩
   have hqm:q<m.1:=by rw [← hq.out];exact Nat.mod_lt _ hm1
   obtain⟨hcs1,hcs2⟩:=Hch.out m (List.mem_of_getElem? hm) q l hqm hl
   have Hcs1:=hide hcs1
   rw [hq.out] at hd
   have Hc2:=hide (show KK[k]?=some (m.1,m.2 q l) by rw [Hc.out,hq.out])
   obtain⟨sz,hsz⟩:∃ sz:Nat,Hid (m.1=sz):=⟨_,rfl⟩
   obtain⟨cs,hcs⟩:∃ cs:List Nat,Hid (m.2 q l=cs):=⟨_,rfl⟩
   have hkl:k<(dec (szs ss us) x).length:=(List.getElem?_eq_some_iff.1 hd).1
   have hww:=hw1.trans hx
   obtain⟨bt,ot,q',rfl,_,_,hq',hct⟩:=(HT.out wr hww).num hkl
   obtain rfl:q=q':=by have:=hq'.out;rw [hd] at this;exact Option.some.inj this
   obtain⟨bz,oz,z',rfl,_,_,hz',hcz⟩:=(HS.out wr hww).num (List.getElem?_eq_some_iff.1 hz).1
   obtain rfl:m.1=z':=by have:=hz'.out;rw [hz] at this;exact Option.some.inj this
   have Hqm:=hide hqm
   rw [hsz.out] at hcz hm1 hm16 hcs2
   rw [hcs.out] at hcs2 Hcs1
   rw [hsz.out] at Hcs1 Hc2
   rw [hcs.out] at Hc2
   have hstep:=hide (show fwd (KK.take (k+1))=out.flatMap fun o=>cs.map fun y=>o*sz+y by
    rw [List.take_add_one,Hc2.out,Option.toList_some,zgF,← hout.out])
   have CT:∀ W,Ext wr W→W.cell? ⟨bt,ot+k,none⟩=some (.int .i64 (q:Nat)):=fun W hW=>hW.cell_some hct
   have CB:∀ W,Ext wr W→∀ j,W.cell? ⟨w.heap.size,j,none⟩=#[Value.slice PA pn pc,.slice AA an ac,sv,.int .i64 L,.int .i64 K,.int .i64 G][j]?:=fun W hW=>((hb1.ext hx).ext hW).cell
   have CC:=hide (show ∀ W,Ext wr W→Calls Tryz.prog 220 #[.agg #[.slice PA pn pc,.slice AA an ac,sv,.int .i64 L,.int .i64 K,.int .i64 G],.int .i64 k,.int .i64 q,.int .i64 l] W (zbr W cs) from fun W hW=>by
    have:=zgi (pc:=pc) (ac:=ac) (sv:=sv) (L:=L) (K:=K) (G:=G) (HN.out W (hww.trans hW)) Hok.out Hm.out Hqm.out hl
    rw [hcs.out] at this
    exact this)
   have hki:(k:Int)<(n:Int):=by omega
   have hrr:=Ext.refl wr
   clear hct hz' hq' hz hd hc hm hqm hcs1 ho2 Hqm
   go_upto_region 5 with fail
   refine uR (fun X=>Ext wr X) [7] (OrdU.of [0,1,2,3,4,5,6,7,8]) ?_
   refine uQ ?_
   (refine za rfl rfl rfl rfl (fun K hK=>?_))
   go_simp
   refine (CC.out _ hrr.drew).mono ?_
   rintro e w4 ⟨A4,c4,rfl,hown4,hx4⟩
   refine hK.out _ _ ?_
   refine pT ?_
   refine uQ ?_
   refine zd ?_
   have hw4:Ext wr w4:=hrr.drew.trans hx4
   have hL4:=Lst.own_nats hown4
   have hLo:=(Lst.own_nats hown).ext NatP.ok hw4
   have hcz4:=hw4.cell_some hcz
   clear CT CB CC hrr hown4 hx4 hcz
   go_upto_region 7 with fail
   have hx5:=(Ext.refl w4).alloc (.cells #[] 3)
   have hown5:=World.ownsRow_lit (base:=w4.heap.size) (e:=3) (size:=1) w4 #[] 0 (Nat.le_refl _) (by unfold maxLen;omega) rfl
   generalize hg1:(some ⟨w4.heap.size,0,none⟩:Option Addr)=A5 at *
   clear hg1
   generalize w4.alloc (.cells #[] 3)=w5 at *
   have hLo':=hide (fun W (hW:Ext w4 W)=>hLo.ext NatP.ok hW)
   have hL4':=hide (fun W (hW:Ext w4 W)=>hL4.ext NatP.ok hW)
   have Hsz:=hide (fun W (hW:Ext w4 W)=>hW.cell_some hcz4)
   clear hLo hL4 hcz4
   go_wp2_with fail
   go_loopw [12,13,14] (fun v i _ wr=>∃ (a:Nat) (nx:List Nat),i=.int .i64 a∧a≤out.length∧Hid (nx=(out.take a).flatMap fun o=>cs.map fun y=>o*sz+y)∧wr.ownsRow w4.heap.size 3 1 v nx.length (nats nx)∧Ext w4 wr) (fun _ i _ _=>out.length - (intOf i).toNat)
   case atStart=>exact⟨0,[],rfl,Nat.zero_le _,by simp [Hid],by simpa [nats] using hown5,hx5⟩
   case round =>
    clear hown5 hx5
    obtain⟨a,nx,rfl,ha,hnx,hown5,hx5⟩:=hrel
    by_cases hla:a<out.length
    ·obtain⟨bo,oo,o,rfl,_,_,ho,hco⟩:=(hLo'.out _ hx5).num hla
     have holt:=Ho2.out o (List.mem_of_getElem? ho.out)
     have hnl:nx.length≤16777216:=by
      rw [hnx.out]
      refine Nat.le_trans (flat_len (k:=cs.length) fun z _=>by simp) ?_
      rw [List.length_take]
      have:=Nat.mul_le_mul (show min a out.length≤1048576 by omega) (show cs.length≤16 by omega)
      omega
     have hsn:=hide (show ((out.take (a+1)).flatMap fun o=>cs.map fun y=>o*sz+y)=nx++cs.map fun y=>o*sz+y by
      rw [List.take_add_one,ho.out,hnx.out];simp)
     clear hco
     go_wp2_with fail
     go_loopw [12,14] (fun v i wr=>∃ (b:Nat) (nb:List Nat),i=.int .i64 b∧b≤cs.length∧Hid (nb=nx++(cs.take b).map fun y=>o*sz+y)∧wr.ownsRow w4.heap.size 3 1 v nb.length (nats nb)∧Ext w4 wr) (fun _ i _=>cs.length - (intOf i).toNat)
     case atStart=>exact⟨0,nx,rfl,Nat.zero_le _,by simp [Hid],hown5,hx5⟩
     case round =>
      clear hown5 hx5
      obtain⟨b,nb,rfl,hb,hnb,hown5,hx5⟩:=hrel
      by_cases hlb:b<cs.length
      ·obtain⟨bc,oc,y,rfl,_,_,hy,hcy⟩:=(hL4'.out _ hx5).num hlb
       have hylt:=Hcs1.out y (List.mem_of_getElem? hy.out)
       have hnbl:nb.length≤16777216+16:=by rw [hnb.out,List.length_append,List.length_map,List.length_take];omega
       have hmul:o*sz≤1048576*16:=Nat.mul_le_mul (by omega) hm16
       obtain⟨os,hos⟩:∃ z:Nat,Hid (o*sz=z):=⟨_,rfl⟩
       have hosi:(o:Int)*(sz:Int)=(os:Int):=by rw [← hos.out];exact (Int.natCast_mul o sz).symm
       rw [hos.out] at hmul
       have hsn3:=hide (show (nx++(cs.take (b+1)).map fun y=>o*sz+y)=nb++[os+y] by
        rw [List.take_add_one,hy.out,hnb.out,← hos.out];simp)
       have C1:∀ W,Ext wr W→W.cell? ⟨bo,oo+a,none⟩=some (.int .i64 (o:Nat)):=fun W hW=>(hLo'.out W (hx5.trans hW)).num2 ho.out
       have C2:∀ W,Ext wr W→W.cell? ⟨bz,oz+k,none⟩=some (.int .i64 (sz:Nat)):=fun W hW=>Hsz.out W (hx5.trans hW)
       have C3:∀ W,Ext wr W→W.cell? ⟨bc,oc+b,none⟩=some (.int .i64 (y:Nat)):=fun W hW=>hW.cell_some hcy
       have hai:(a:Int)<(out.length:Int):=by omega
       have hbi:(b:Int)<(cs.length:Int):=by omega
       have hww5:=Ext.refl wr
       clear hcy
       go_upto_region 13 with fail
       refine uR (fun X=>Ext wr X) [15,16] (OrdU.of [0,1,2,3,4,5,6,7,8,9,10,11,12,13,14,15,16,17]) ?_
       refine uQ ?_
       (refine zb rfl rfl rfl (fun K hK=>?_);go_simp)
       refine hK.out _ _ (hww5.drew.alloc _) ?_
       refine pT ?_
       (refine za rfl rfl rfl rfl (fun K hK=>?_))
       refine zaG w4 wr.drew _ _ _ rfl 3 _ 1 8 Tryz.underlying71 zY rfl (by decide) u12 nb.length (nats nb) _ _ rfl rfl (hx5.drew).size hown5 rfl (zaZ _) (by unfold maxLen;omega) (by omega) ?_
       intro g5 cap5 w6 hown6 hg6 hat6 hlt6
       have hwr:IntKind.i64.wrap (IntKind.i64.wrap (os:Int)+(y:Int))=((os+y:Nat):Int):=by rw [zfd os (by omega),← Int.natCast_add,zfd (os+y) (by omega)]
       rw [hwr] at hown6
       refine hK.out _ _ ?_
       refine pT ?_
       refine uQ ?_
       refine zd ?_
       have hx6:Ext w4 w6:=hx5.drew.grown hg6 (fun q' hq'=>(hown5.lt q' hq').1)
       go_wp2_with fail
       go_roundw
       case rel=>exact⟨b+1,nb++[os+y],by go_num,by omega,by unfold Hid;rw [hsn3.out],by rw [List.length_append,zdb];exact hown6,hx6⟩
       case measure=>simp [intOf];omega
      ·obtain rfl:b=cs.length:=by omega
       have hfin2:=hide (show nb=nx++cs.map fun y=>o*sz+y by rw [hnb.out,List.take_length])
       go_wp2_with fail
       go_roundw
       case rel=>exact⟨a+1,nb,by go_num,by omega,by unfold Hid;rw [hsn.out,hfin2.out],hown5,hx5⟩
       case measure=>simp [intOf];omega
    ·obtain rfl:a=out.length:=by omega
     have hfin3:=hide (show nx=fwd (KK.take (k+1)) by rw [hstep.out,hnx.out,List.take_length])
     have hx6:=hx.trans (hw4.trans hx5)
     have hown6:=zn hown5 (show w1.heap.size≤w4.heap.size from (hx.trans hw4).size)
     go_wp2_with fail
     go_roundw
     case rel=>exact⟨k+1,nx,by go_num,by omega,hfin3,hown6,hx6⟩
     case measure=>simp [intOf];omega
  ·obtain rfl:n=k:=by omega
   have hfin:=hide (show out=pnx (mems ss us) x l by rw [hout.out,List.take_of_length_le (by have:=Hlen.out;omega)];exact Hfin.out)
   have hres:=hide (show zbr w (pnx (mems ss us) x l) (.returned (.slice A0 out.length c0)) wr from by
    rw [← hfin.out]
    exact⟨A0,c0,rfl,zn hown hsz2,hw1.trans hx⟩)
   clear hown
   go_wp2
   go_ret
   exact hres.out
set_option maxHeartbeats 4000000
theorem info_intss:(Tryz.prog.info? 24).map (fun i=>(i.zero,i.size,i.bytes))=some (some (.slice none 0 0),1,24):=by kernel_rfl
def mvs (d:Nat→Nat→List Nat) (L:List Nat) (N:Nat):List (List (List Nat)):=(List.range N).map fun x=>L.map fun l=>d x l
theorem zcv (d:Nat→Nat→List Nat) (L:List Nat) (N:Nat):(mvs d L N).length=N:=by simp [mvs]
abbrev P3:Lay (List (List Nat)):=LstP (LstP NatP)
theorem P3.ok:Lay.Ok P3:=LstP.ok (LstP.ok NatP.ok)
def RetMv (w:World) (mv:List (List (List Nat))) (e:Ending) (w':World):Prop:=∃ A c,e=.returned (.slice A mv.length c)∧Lst P3 w' w.heap.size w'.heap.size A mv∧Ext w w'
set_option maxRecDepth 100000 in
theorem spec_l4Moves {PA AA SA:Option Addr} {pn pc an ac n sc lo hi:Nat} {sv:Value} {K G:Int} {L N:Nat} {ss:List Sys} {us:List Aut} {w:World}(h:zdU w PA pn AA an ss us)(hok:zcF ss us)(hS:Lst NatP w lo hi SA (szs ss us))(hn:(szs ss us).length=n)(hL:L<64)(hN:N≤1048576) :
  Calls Tryz.prog 189 #[.agg #[.slice PA pn pc,.slice AA an ac,sv,.int .i64 L,.int .i64 K,.int .i64 G],.slice SA n sc,.int .i64 N] w (RetMv w (mvs (pnx (mems ss us)) (letters L 6) N)):=by
 have hw1:Ext w (w.alloc (.cells #[.slice PA pn pc,.slice AA an ac,sv,.int .i64 L,.int .i64 K,.int .i64 G] 166)):=(Ext.refl w).alloc _
 have hb1:=Blk.new w 166 #[.slice PA pn pc,.slice AA an ac,sv,.int .i64 L,.int .i64 K,.int .i64 G]
 have HN:=hide (fun W (hW:Ext w W)=>h.ext hW)
 have HS:=hide (fun W (hW:Ext w W)=>hS.ext NatP.ok hW)
 have Hok:=hide hok
 have Hn:=hide hn
 have hn5:n≤5:=by rw [← hn];exact hok.len
 have Hz:=hide hok.le16
 have hLs:Sm L:=by unfold Sm;omega
 have hll:=zy L 6
 have Hl6:=hide (show ∀ l∈letters L 6,l<6 from fun l hl=>(zD.1 hl).1)
 clear h hok hS hn
 go_enter Tryz.func189,Tryz.ntmps189
 go_upto_region 1 with fail
 generalize w.alloc (.cells #[.slice PA pn pc,.slice AA an ac,sv,.int .i64 L,.int .i64 K,.int .i64 G] 166)=w1 at *
 go_upto_region 2 with fail
 have hx2:=(Ext.refl w1).alloc (.cells #[] 24)
 have hsz2:w.heap.size≤w1.heap.size:=hw1.size
 have hown2:=World.ownsRow_lit (base:=w1.heap.size) (e:=24) (size:=1) w1 #[] 0 (Nat.le_refl _) (by unfold maxLen;omega) rfl
 have hob2:∀ b,(Value.slice (some ⟨w1.heap.size,0,none⟩) 0 0).ownBlock=some b→b<(w1.alloc (.cells #[] 24)).heap.size:=fun b hb=>by
  simp [Value.ownBlock] at hb
  simp;omega
 generalize hg1:(some ⟨w1.heap.size,0,none⟩:Option Addr)=A1 at *
 clear hg1
 generalize w1.alloc (.cells #[] 24)=w2 at *
 have c2:=(hb1.ext hx2).cell
 go_upto_region 3 with (go_at_call 98;refine (zS L hLs _).mono ?_;rintro e w3 ⟨AL,cL,rfl,hownL,hx3⟩)
 have hx23:=hx2.trans hx3
 have hlst3:=Lst.own_nats hownL
 have hsz23:=hx3.size
 have hown3:=zf hown2 hx3
 clear hown2 hownL hx2 hx3 c2
 generalize hlq:letters L 6=LL at *
 have Hlq:=hide hlq
 clear hlq
 go_wp2_with fail
 go_loopw [7,9,10,11,12] (fun v i _ _ _ wr=>∃ k:Nat,i=.int .i64 k∧k≤N∧Grl P3 wr w1.heap.size 24 v (mvs (pnx (mems ss us)) LL k)∧Ext w1 wr∧Lst NatP wr w2.heap.size w3.heap.size AL LL∧(∀ b,v.ownBlock=some b→b<w2.heap.size∨w3.heap.size≤b)∧w3.heap.size≤wr.heap.size) (fun _ i _ _ _ _=>N - (intOf i).toNat)
 case atStart=>exact⟨0,rfl,Nat.zero_le _,⟨[],hown3,fun i r x hr=>by simp at hr⟩,hx23,hlst3,fun b hb=>Or.inl (hob2 b hb),Nat.le_refl _⟩
 case round =>
  clear hown3 hlst3 hob2
  obtain⟨k,rfl,hk,hgr,hx,hlst3,hob,hs3⟩:=hrel
  have hkl:=zcv (pnx (mems ss us)) LL k
  obtain⟨A0,c0,rfl⟩:=hgr.form
  rw [hkl]
  rw [hkl] at hob
  have Hob:=hide hob
  clear hob
  by_cases hlt:k<N
  ·have hww:=hw1.trans hx
   have Hsn:=hide (show mvs (pnx (mems ss us)) LL (k+1)=mvs (pnx (mems ss us)) LL k++[LL.map fun l=>pnx (mems ss us) k l] by simp [mvs,List.range_succ])
   rw [hkl] at hgr
   go_upto_region 7 with (go_at_call 191;refine (zes (HS.out _ hww) Hn.out (by omega) Hz.out (by omega)).mono ?_;rintro e w4 ⟨A4,c4,rfl,hown4,hx4⟩)
   have hln:(dec (szs ss us) k).length=n:=by rw [zcs];exact Hn.out
   rw [hln] at hown4
   rw [hln]
   have HT:=hide (fun W (hW:Ext w4 W)=>(Lst.own_nats (xs:=dec (szs ss us) k) (c:=c4) (A:=A4) (by rw [hln];exact hown4)).ext NatP.ok hW)
   clear hown4
   go_upto_region 8 with fail
   have hx5:=(Ext.refl w4).alloc (.cells #[] 71)
   have hown5:=World.ownsRow_lit (base:=w4.heap.size) (e:=71) (size:=1) w4 #[] 0 (Nat.le_refl _) (by unfold maxLen;omega) rfl
   generalize hg1:(some ⟨w4.heap.size,0,none⟩:Option Addr)=A5 at *
   clear hg1
   generalize w4.alloc (.cells #[] 71)=w5 at *
   have hw4:=hww.trans hx4
   have CBx:=hide (fun W (hW:Ext w4 W)=>((hb1.ext (hx.trans hx4)).ext hW).cell)
   have HL:=hide (fun W (hW:Ext w4 W)=>hlst3.ext NatP.ok (hx4.trans hW))
   go_wp2_with fail
   go_loopw [11,12] (fun v i wr=>∃ j:Nat,i=.int .i64 j∧j≤LL.length∧Grl (LstP NatP) wr w4.heap.size 71 v ((LL.take j).map fun l=>pnx (mems ss us) k l)∧Ext w4 wr) (fun _ i _=>LL.length - (intOf i).toNat)
   case atStart=>exact⟨0,rfl,Nat.zero_le _,⟨[],hown5,fun i r x hr=>by simp at hr⟩,hx5⟩
   case round =>
    clear hown5 hx5
    obtain⟨j,rfl,hj,hrw,hx5⟩:=hrel
    obtain⟨A6,c6,rfl⟩:=hrw.form
    have hjl:((LL.take j).map fun l=>pnx (mems ss us) k l).length=j:=by simp;omega
    rw [hjl]
    rw [hjl] at hrw
    by_cases hlj:j<LL.length
    ·obtain⟨bl,ol,l,rfl,_,_,hl,hcl⟩:=(HL.out _ hx5).num hlj
     have hl6:=Hl6.out l (List.mem_of_getElem? hl.out)
     have hsn:=hide (show (LL.take (j+1)).map (fun l=>pnx (mems ss us) k l)=(LL.take j).map (fun l=>pnx (mems ss us) k l)++[pnx (mems ss us) k l] by rw [List.take_add_one,hl.out];simp)
     have CL:∀ W,Ext wr W→W.cell? ⟨bl,ol+j,none⟩=some (.int .i64 (l:Nat)):=fun W hW=>hW.cell_some hcl
     have CB:∀ W,Ext wr W→∀ q,W.cell? ⟨w.heap.size,q,none⟩=#[Value.slice PA pn pc,.slice AA an ac,sv,.int .i64 L,.int .i64 K,.int .i64 G][q]?:=fun W hW=>CBx.out W (hx5.trans hW)
     have CC:=hide (show ∀ W,Ext wr W→Calls Tryz.prog 211 #[.agg #[.slice PA pn pc,.slice AA an ac,sv,.int .i64 L,.int .i64 K,.int .i64 G],.slice SA n sc,.slice A4 n c4,.int .i64 l] W (zbr W (pnx (mems ss us) k l)) from fun W hW=>spec_l4Nexts (HN.out W ((hw4.trans hx5).trans hW)) Hok.out (HS.out W ((hw4.trans hx5).trans hW)) (HT.out W (hx5.trans hW)) Hn.out hl6)
     have hji:(j:Int)<(LL.length:Int):=by omega
     have hww5:=Ext.refl wr
     obtain⟨rows,hro,hrp⟩:=hrw
     rw [hjl] at hro
     clear hcl
     go_upto_region 11 with fail
     refine uR (fun X=>Ext wr X) [8,9,10] (OrdU.of [0,1,2,3,4,5,6,7,8,9,10,11]) ?_
     refine uQ ?_
     (refine za rfl rfl rfl rfl (fun K hK=>?_))
     go_simp
     refine (CC.out _ hww5.drew).mono ?_
     rintro e w7 ⟨A7,c7,rfl,hown7,hx7⟩
     have hww7:=hww5.drew.trans hx7
     refine hK.out _ _ ?_
     refine pT ?_
     (refine za rfl rfl rfl rfl (fun K hK=>?_))
     go_simp
     refine hK.out _ _ ?_
     refine pT ?_
     (refine za rfl rfl rfl rfl (fun K hK=>?_))
     refine zaG w4 w7 _ _ _ rfl 71 _ 1 24 Tryz.underlying24 zbV rfl (by decide) (.slice A6 j c6) j rows _ _ rfl rfl (hx5.trans hww7).size (zf hro hww7) rfl (zaP _ _ _) (by unfold maxLen;omega) (by omega) ?_
     intro g8 cap8 w8 hown8 hg8 hat8 hlt8
     refine hK.out _ _ ?_
     refine pT ?_
     refine uQ ?_
     refine zd ?_
     have hgr8:Grl (LstP NatP) w8 w4.heap.size 71 (.slice (some ⟨g8,0,none⟩) (j+1) cap8) ((LL.take j).map (fun l=>pnx (mems ss us) k l)++[pnx (mems ss us) k l]):=by
      have:=Grl.push2 (LstP.ok NatP.ok) (v:=.slice A6 j c6) (xs:=(LL.take j).map fun l=>pnx (mems ss us) k l) (g:=g8) (cap:=cap8) hrp (by rw [hjl];exact hro) hww7 ⟨A7,c7,rfl,Lst.own_nats hown7⟩ (Nat.le_refl wr.heap.size) hx5.size (Nat.le_refl _) (by rw [hjl];exact hown8) hg8 hat8
      rwa [hjl] at this
     have hx8:Ext w4 w8:=(hx5.trans hww7).grown hg8 (fun q' hq'=>(hro.lt q' hq').1)
     go_wp2_with fail
     go_roundw
     case rel=>exact⟨j+1,by go_num,by omega,by rw [hsn.out];exact hgr8,hx8⟩
     case measure=>simp [intOf];omega
    ·obtain rfl:j=LL.length:=by omega
     rw [List.take_length] at hrw
     have hw5:=hx4.trans hx5
     have hlst:=hrw.lst (LstP.ok NatP.ok)
     obtain⟨rows,hro,hrp⟩:=hgr
     rw [hkl] at hro
     go_wp2_with (at_builtin;refine zP w1 wr rfl _ _ _ rfl 24 _ 1 24 Tryz.underlying207 info_intss rfl (by decide) (.slice A0 k c0) k rows _ _ rfl rfl (hx.trans hw5) (zf hro hw5) rfl (zaP _ _ _) (by unfold maxLen;omega) (by omega) ?_;intro v8 w8 hext8 hown8 hg8 hat8)
     have hgr8:Grl P3 w8 w1.heap.size 24 v8 (mvs (pnx (mems ss us)) LL k++[LL.map fun l=>pnx (mems ss us) k l]):=
      Grl.push P3.ok (v:=.slice A0 k c0) hrp (by rw [hkl];exact hro) hw5 (⟨A6,c6,by simp,hlst⟩:P3 _ _ _ (.slice A6 LL.length c6) _) hx4.size (hx.trans hx4).size (Nat.le_refl _) (by rw [hkl];exact hown8) hg8 hat8
     have hlst8:Lst NatP w8 w2.heap.size w3.heap.size AL LL:=(hlst3.ext NatP.ok hw5).frm NatP.ok (Frm.of_grown hg8) (fun q h1 h2 hq=>by have:=Hob.out q hq;omega)
     have hob8:∀ b,v8.ownBlock=some b→b<w2.heap.size∨w3.heap.size≤b:=fun b hb=>by
      rcases hat8 with h1|h1
      ·rw [h1] at hb;exact Hob.out b hb
      ·rw [h1] at hb
       have:=Option.some.inj hb
       have:=hw5.size
       omega
     have hs8:w3.heap.size≤w8.heap.size:=by have:=hw5.size;have:=(Frm.of_grown hg8).size;omega
     go_roundw
     case rel=>exact⟨k+1,by go_num,by omega,by rw [Hsn.out];exact hgr8,hext8,hlst8,hob8,hs8⟩
     case measure=>simp [intOf];omega
  ·obtain rfl:N=k:=by omega
   have hres:=hide (show RetMv w (mvs (pnx (mems ss us)) LL N) (.returned (.slice A0 N c0)) wr from by
    refine⟨A0,c0,by rw [hkl],?_,hw1.trans hx⟩
    have:=hgr.lst P3.ok
    exact this.more P3.ok hsz2 (Nat.le_refl _))
   clear hgr
   go_wp2
   go_ret
   exact hres.out
section
variable (d:Nat→Nat→List Nat) (L:List Nat) (goal:Nat→Bool)
def Dn:Nat→Nat→Prop
 |0,x=>goal x=true
 |n+1,x=>∃ l∈L,∃ y∈d x l,Dn n y
def Mn (n x:Nat):Prop:=Dn d L goal n x∧∀ m,m<n→¬ Dn d L goal m x
end
section
variable {d:Nat→Nat→List Nat} {L:List Nat} {goal:Nat→Bool} {start:List Nat} {N:Nat}
theorem Dn.word:∀ {n x:Nat} {v:List Nat},Dn d L goal n x→Goes d start v x→∃ u:List Nat,u.length=n∧(∀ l∈u,l∈L)∧∃ y,Goes d start (v++u) y∧goal y=true:=by
 intro n
 induction n with
 |zero=>intro x v h hg;exact⟨[],rfl,by simp,x,by simpa using hg,h⟩
 |succ n ih =>
  intro x v h hg
  obtain⟨l,hl,y,hy,h⟩:=h
  obtain⟨u,h1,h2,z,h3,h4⟩:=ih h (.snoc hg hy)
  refine⟨l :: u,by simp [h1],?_,z,by simpa using h3,h4⟩
  intro k hk
  rcases List.mem_cons.1 hk with rfl|hk
  ·exact hl
  ·exact h2 k hk
theorem Goes.dn:∀ {u v:List Nat} {y:Nat},Goes d start (v++u) y→goal y=true→(∀ l∈u,l∈L)→∃ x,Goes d start v x∧Dn d L goal u.length x:=by
 intro u
 induction u with
 |nil=>intro v y h hg _;exact⟨y,by simpa using h,hg⟩
 |cons l u ih =>
  intro v y h hg hl
  have h':Goes d start ((v++[l])++u) y:=by simpa using h
  obtain⟨x,h1,h2⟩:=ih h' hg (fun k hk=>hl k (by simp [hk]))
  obtain⟨n,hn,hx⟩:=h1.inv
  exact⟨n,hn,l,hl l (by simp),x,hx,h2⟩
theorem Dn.least {n x:Nat}(h:Dn d L goal n x):∃ m,m≤n∧Mn d L goal m x:=by
 induction n using Nat.strongRecOn with
 |_ n ih =>
  by_cases hm:∃ m,m<n∧Dn d L goal m x
  ·obtain⟨m,h1,h2⟩:=hm
   obtain⟨k,h3,h4⟩:=ih m h1 h2
   exact⟨k,by omega,h4⟩
  ·exact⟨n,Nat.le_refl _,h,fun m h1 h2=>hm ⟨m,h1,h2⟩⟩
theorem Mn.next {n x:Nat}(h:Mn d L goal (n+1) x):∃ l∈L,∃ y∈d x l,Mn d L goal n y:=by
 obtain⟨⟨l,hl,y,hy,h1⟩,h2⟩:=h
 exact⟨l,hl,y,hy,h1,fun m hm hd=>h2 (m+1) (by omega) ⟨l,hl,y,hy,hd⟩⟩
theorem Mn.uniq {m n x:Nat}(h:Mn d L goal m x) (k:Mn d L goal n x):m=n:=by
 rcases Nat.lt_trichotomy m n with h1|h1|h1
 ·exact absurd h.1 (k.2 m h1)
 ·exact h1
 ·exact absurd k.1 (h.2 n h1)
def Dst (d:Nat→Nat→List Nat) (L:List Nat) (goal:Nat→Bool) (k:Nat) (x:Nat) (v:Int):Prop:=(v = -1∧∀ m,m<k→¬ Dn d L goal m x)∨∃ n:Nat,n<k∧v=n∧Mn d L goal n x
def zbg (d:Nat→Nat→List Nat) (L:List Nat) (goal:Nat→Bool) (N k i:Nat) (ds:List Int):Prop:=ds.length=N∧∀ (x:Nat) (v:Int),ds[x]?=some v→Dst d L goal (if x<i then k+1 else k) x v
theorem zbg.round_ {k:Nat} {ds:List Int}(h:zbg d L goal N k N ds):zbg d L goal N (k+1) 0 ds:=⟨h.1,fun x v hx=>by
 have h1:=h.2 x v hx
 have h2:=(List.getElem?_eq_some_iff.1 hx).1
 rw [if_pos (by rw [← h.1];exact h2)] at h1
 rw [if_neg (by omega)]
 exact h1⟩
theorem zbg.init {ds:List Int}(hl:ds.length=N)(h:∀ (x:Nat) (v:Int),ds[x]?=some v→v=if goal x then 0 else -1):zbg d L goal N 1 0 ds:=⟨hl,fun x v hx=>by
 rw [if_neg (by omega)]
 have:=h x v hx
 cases hg:goal x
 ·rw [hg] at this
  refine Or.inl ⟨by simpa using this,fun m hm=>?_⟩
  obtain rfl:m=0:=by omega
  simp [Dn,hg]
 ·rw [hg] at this
  exact Or.inr ⟨0,by omega,by simpa using this,hg,fun m hm=>by omega⟩⟩
theorem zbg.skip {k i:Nat} {ds:List Int} {v:Int}(h:zbg d L goal N k i ds)(hv:ds[i]?=some v)(h0:0≤v):zbg d L goal N k (i+1) ds:=⟨h.1,fun x u hx=>by
 have h1:=h.2 x u hx
 by_cases hxi:x=i
 ·subst hxi
  rw [hv] at hx
  obtain rfl:=Option.some.inj hx
  rw [if_pos (by omega)]
  rw [if_neg (by omega)] at h1
  rcases h1 with ⟨h2,_⟩|⟨n,h2,h3⟩
  ·omega
  ·exact Or.inr ⟨n,by omega,h3⟩
 ·by_cases h2:x<i
  ·rw [if_pos h2] at h1
   rw [if_pos (by omega)]
   exact h1
  ·rw [if_neg h2] at h1
   rw [if_neg (by omega)]
   exact h1⟩
def zgI (d:Nat→Nat→List Nat) (L:List Nat) (ds:List Int) (k:Nat) (x:Nat):Bool:=L.any fun l=>(d x l).any fun y=>ds.getD y (-1)==(k:Int)
theorem near_iff {ds:List Int} {k x:Nat}:zgI d L ds k x=true↔∃ l∈L,∃ y∈d x l,ds[y]?=some (k:Int):=by
 simp only [zgI,List.any_eq_true,beq_iff_eq]
 constructor
 ·rintro ⟨l,hl,y,hy,h⟩
  refine⟨l,hl,y,hy,?_⟩
  rw [List.getD_eq_getElem?_getD] at h
  cases hh:ds[y]? with
  |none=>rw [hh] at h;simp at h
  |some v=>rw [hh] at h;simp at h;rw [h]
 ·rintro ⟨l,hl,y,hy,h⟩
  exact⟨l,hl,y,hy,by rw [List.getD_eq_getElem?_getD,h];rfl⟩
theorem zbg.near {k i:Nat} {ds:List Int} {v:Int}(h:zbg d L goal N (k+1) i ds)(hd:∀ x l,x<N→l∈L→∀ y∈d x l,y<N)(hv:ds[i]?=some v)(h0:v<0):zgI d L ds k i=true↔Mn d L goal (k+1) i:=by
 have hiN:i<N:=by rw [← h.1];exact (List.getElem?_eq_some_iff.1 hv).1
 have hi:=h.2 i v hv
 rw [if_neg (by omega)] at hi
 have hno:∀ m,m<k+1→¬ Dn d L goal m i:=by
  rcases hi with ⟨_,h1⟩|⟨n,_,h2,_⟩
  ·exact h1
  ·omega
 have val:∀ y (n:Nat),ds[y]?=some (n:Int)→Mn d L goal n y:=fun y n hy=>by
  rcases h.2 y _ hy with ⟨h1,_⟩|⟨m,_,h1,h2⟩
  ·omega
  ·obtain rfl:n=m:=by omega
   exact h2
 rw [near_iff]
 constructor
 ·rintro ⟨l,hl,y,hy,hyk⟩
  exact⟨⟨l,hl,y,hy,(val y k hyk).1⟩,hno⟩
 ·rintro ⟨⟨l,hl,y,hy,h1⟩,_⟩
  refine⟨l,hl,y,hy,?_⟩
  have hyN:y<ds.length:=by rw [h.1];exact hd i l hiN hl y hy
  have hyv:ds[y]?=some ds[y]:=List.getElem?_eq_getElem hyN
  rw [hyv]
  congr 1
  rcases h.2 y _ hyv with ⟨_,h2⟩|⟨n,_,h2,h3⟩
  ·exact absurd h1 (h2 k (by split<;>omega))
  ·rw [h2]
   rcases Nat.lt_trichotomy n k with h4|h4|h4
   ·exact absurd ⟨l,hl,y,hy,h3.1⟩ (hno (n+1) (by omega))
   ·rw [h4]
   ·exact absurd h1 (h3.2 k h4)
theorem zbg.keep {k i:Nat} {ds:List Int} {v:Int}(h:zbg d L goal N (k+1) i ds)(hd:∀ x l,x<N→l∈L→∀ y∈d x l,y<N)(hv:ds[i]?=some v)(h0:v<0)(hn:zgI d L ds k i=false):zbg d L goal N (k+1) (i+1) ds:=⟨h.1,fun x u hx=>by
 have h1:=h.2 x u hx
 by_cases hxi:x=i
 ·subst hxi
  have hM:¬ Mn d L goal (k+1) x:=fun hm=>by rw [(h.near hd hv h0).2 hm] at hn;cases hn
  rw [hv] at hx
  obtain rfl:=Option.some.inj hx
  rw [if_pos (by omega)]
  rw [if_neg (by omega)] at h1
  rcases h1 with ⟨h2,h3⟩|⟨n,h2,h3,_⟩
  ·refine Or.inl ⟨h2,fun m hm hdm=>?_⟩
   by_cases he:m=k+1
   ·subst he
    exact hM ⟨hdm,h3⟩
   ·exact h3 m (by omega) hdm
  ·omega
 ·by_cases h2:x<i
  ·rw [if_pos h2] at h1
   rw [if_pos (by omega)]
   exact h1
  ·rw [if_neg h2] at h1
   rw [if_neg (by omega)]
   exact h1⟩
theorem zbg.put {k i:Nat} {ds:List Int} {v:Int}(h:zbg d L goal N (k+1) i ds)(hd:∀ x l,x<N→l∈L→∀ y∈d x l,y<N)(hv:ds[i]?=some v)(h0:v<0)(hn:zgI d L ds k i=true):zbg d L goal N (k+1) (i+1) (ds.set i ((k+1:Nat):Int)):=⟨by rw [List.length_set];exact h.1,fun x u hx=>by
 by_cases hxi:x=i
 ·subst hxi
  rw [List.getElem?_set_self (List.getElem?_eq_some_iff.1 hv).1] at hx
  obtain rfl:=Option.some.inj hx
  rw [if_pos (by omega)]
  exact Or.inr ⟨k+1,by omega,rfl,(h.near hd hv h0).1 hn⟩
 ·rw [List.getElem?_set_ne (fun e=>hxi e.symm)] at hx
  have h1:=h.2 x u hx
  by_cases h2:x<i
  ·rw [if_pos h2] at h1
   rw [if_pos (by omega)]
   exact h1
  ·rw [if_neg h2] at h1
   rw [if_neg (by omega)]
   exact h1⟩
theorem set_count {ds:List Int} {i:Nat} {v u:Int}(hv:ds[i]?=some v)(h0:v = -1)(hu:0≤u):(ds.set i u).count (-1)+1=ds.count (-1):=by
 obtain⟨hi,e⟩:=List.getElem?_eq_some_iff.1 hv
 have hpos:1≤ds.count (-1):=List.count_pos_iff.2 (by rw [← h0,← e];exact List.getElem_mem hi)
 rw [List.count_set hi,e,h0]
 have:(u==(-1:Int))=false:=by simp;omega
 simp [this]
 omega
def DsFin (d:Nat→Nat→List Nat) (L:List Nat) (goal:Nat→Bool) (N:Nat) (ds:List Int):Prop:=ds.length=N∧∀ (x:Nat) (v:Int),ds[x]?=some v→(v = -1∧∀ m,¬ Dn d L goal m x)∨∃ n:Nat,v=n∧Mn d L goal n x
theorem zbg.fin {k:Nat} {ds:List Int}(h:zbg d L goal N k N ds)(hd:∀ x l,x<N→l∈L→∀ y∈d x l,y<N)(hno:∀ x,x<N→¬ Mn d L goal k x):DsFin d L goal N ds:=by
 have up:∀ n x,x<N→¬ Mn d L goal (k+n) x:=by
  intro n
  induction n with
  |zero=>exact hno
  |succ n ih =>
   intro x hx hm
   obtain⟨l,hl,y,hy,h1⟩:=hm.next
   exact ih y (hd x l hx hl y hy) h1
 refine⟨h.1,fun x v hx=>?_⟩
 have hxN:x<N:=by rw [← h.1];exact (List.getElem?_eq_some_iff.1 hx).1
 have h1:=h.2 x v hx
 rw [if_pos hxN] at h1
 rcases h1 with ⟨h2,h3⟩|⟨n,_,h3⟩
 ·refine Or.inl ⟨h2,fun m hm=>?_⟩
  obtain⟨m',_,h4⟩:=hm.least
  by_cases h5:m'<k
  ·exact h3 m' (by omega) h4.1
  ·have:=up (m' - k) x hxN
   rw [show k+(m' - k)=m' by omega] at this
   exact this h4
 ·exact Or.inr ⟨n,h3⟩
theorem DsFin.val {ds:List Int}(h:DsFin d L goal N ds) {x n:Nat}(hx:x<N):ds[x]?=some (n:Int)↔Mn d L goal n x:=by
 have hl:x<ds.length:=by rw [h.1];exact hx
 have hv:ds[x]?=some ds[x]:=List.getElem?_eq_getElem hl
 constructor
 ·intro h1
  rcases h.2 x _ h1 with ⟨h2,_⟩|⟨m,h2,h3⟩
  ·omega
  ·obtain rfl:n=m:=by omega
   exact h3
 ·intro hm
  rw [hv]
  rcases h.2 x _ hv with ⟨_,h2⟩|⟨m,h2,h3⟩
  ·exact absurd hm.1 (h2 n)
  ·rw [h2,h3.uniq hm]
theorem wval_lt (w:List Nat)(h:∀ l∈w,l<6):wval w<7 ^ w.length∧7 ^ w.length≤6*wval w+1:=by
 have key:∀ n (w:List Nat),w.length=n→(∀ l∈w,l<6)→wval w<7 ^ n∧7 ^ n≤6*wval w+1:=by
  intro n
  induction n with
  |zero =>
   intro w hw _
   obtain rfl:=List.eq_nil_of_length_eq_zero hw
   simp [wval]
  |succ n ih =>
   intro w hw hl
   rcases zac w with rfl|⟨u,l,rfl⟩
   ·simp at hw
   ·have h1:=ih u (by simpa using hw) (fun x hx=>hl x (by simp [hx]))
    have h2:=hl l (by simp)
    rw [zas,Nat.pow_succ]
    omega
 exact key w.length w rfl h
theorem zfY {u v:List Nat}(hu:∀ l∈u,l<6)(hv:∀ l∈v,l<6)(h:v.length<u.length):wval v<wval u:=by
 have h1:=wval_lt u hu
 have h2:=wval_lt v hv
 have h3:7 ^ (v.length+1)≤7 ^ u.length:=Nat.pow_le_pow_right (by omega) h
 rw [Nat.pow_succ] at h3
 omega
structure zcT (d:Nat→Nat→List Nat) (L:List Nat) (goal:Nat→Bool) (start:List Nat) (at_:List Nat) (v:List Nat) (r:Nat):Prop where
 goes:∀ x∈at_,Goes d start v x∧Mn d L goal r x
 all:∀ x,Goes d start v x→Dn d L goal r x→x∈at_
 first:∀ u:List Nat,(∀ l∈u,l∈L)→u.length=v.length→wval u<wval v→∀ x,Goes d start u x→¬ Dn d L goal r x
 least:∀ u:List Nat,(∀ l∈u,l∈L)→u.length<v.length+r→∀ x,Goes d start u x→goal x=false
 letters:∀ l∈v,l∈L
 some_:at_≠[]
theorem zcT.begin_ {x r:Nat}(h:Mn d L goal r x):zcT d L goal [x] [x] [] r:=by
 refine⟨fun y hy=>?_,fun y hy _=>hy.inv_nil,fun u _ hu=>?_,fun u hl hu y hy=>?_,by simp,by simp⟩
 ·simp at hy;subst hy
  exact⟨.nil (by simp),h⟩
 ·simp at hu;subst hu
  intro h;simp [wval] at h
 ·simp at hu
  cases hg:goal y
  ·rfl
  ·exfalso
   obtain⟨z,hz,hd⟩:=Goes.dn (v:=[]) (u:=u) (by simpa using hy) hg hl
   have:=hz.inv_nil
   simp at this
   subst this
   exact h.2 u.length (by omega) hd
theorem zcT.fin {at_ v:List Nat}(h:zcT d L goal start at_ v 0)(hL:∀ l∈L,l<6):Found d start goal L v:=by
 refine⟨h.letters,?_,fun u hu hlt x hx=>?_⟩
 ·obtain⟨x,hx⟩:=List.exists_mem_of_ne_nil _ h.some_
  exact⟨x,(h.goes x hx).1,(h.goes x hx).2.1⟩
 ·rcases Nat.lt_trichotomy u.length v.length with h1|h1|h1
  ·exact h.least u hu (by omega) x hx
  ·have:=h.first u hu h1 hlt x hx
   cases hg:goal x
   ·rfl
   ·exact absurd hg this
  ·have:=zfY (u:=u) (v:=v) (fun l hl=>hL l (hu l hl)) (fun l hl=>hL l (h.letters l hl)) h1
   omega
theorem zcT.exists_ {at_ v:List Nat} {r:Nat}(h:zcT d L goal start at_ v (r+1)):∃ (k l:Nat),L[k]?=some l∧∃ x n,n∈at_∧x∈d n l∧Mn d L goal r x:=by
 obtain⟨n,hn⟩:=List.exists_mem_of_ne_nil _ h.some_
 obtain⟨l,hl,y,hy,h1⟩:=(h.goes n hn).2.next
 obtain⟨k,hk⟩:=List.getElem?_of_mem hl
 exact⟨k,l,hk,y,n,hn,hy,h1⟩
theorem zcT.step {at_ v next:List Nat} {r k l:Nat}(h:zcT d L goal start at_ v (r+1))(hL:Rise L)(hk:L[k]?=some l)(hn:∀ x,x∈next↔∃ n∈at_,x∈d n l∧Mn d L goal r x)(hne:next≠[])
  (hno:∀ (j m:Nat),j<k→L[j]?=some m→∀ n∈at_,∀ x∈d n m,¬ Mn d L goal r x):zcT d L goal start next (v++[l]) r:=by
 have h6:∀ l∈L,l<6:=hL.1
 have hlL:=List.mem_of_getElem? hk
 have min_:∀ (u:List Nat),(∀ m∈u,m∈L)→u.length=v.length+1→∀ x,Goes d start u x→Dn d L goal r x→Mn d L goal r x:=by
  intro u hu hlen x hx hd
  refine⟨hd,fun m hm hdm=>?_⟩
  obtain⟨s,h1,h2,y,h3,h4⟩:=hdm.word hx
  have:=h.least (u++s) (fun z hz=>by
   rcases List.mem_append.1 hz with h5|h5
   ·exact hu z h5
   ·exact h2 z h5) (by rw [List.length_append];omega) y h3
  rw [this] at h4;cases h4
 refine⟨fun x hx=>?_,fun x hx hd=>?_,fun u hu hlen hlt x hx hd=>?_,fun u hu hlen=>?_,?_,hne⟩
 ·obtain⟨n,h1,h2,h3⟩:=(hn x).1 hx
  exact⟨.snoc (h.goes n h1).1 h2,h3⟩
 ·obtain⟨n,h1,h2⟩:=hx.inv
  have hn':n∈at_:=h.all n h1 ⟨l,hlL,x,h2,hd⟩
  exact (hn x).2 ⟨n,hn',h2,min_ (v++[l]) (fun m hm=>by
   rcases List.mem_append.1 hm with h5|h5
   ·exact h.letters m h5
   ·rw [List.mem_singleton.1 h5];exact hlL) (by simp) x hx hd⟩
 ·rcases zac u with rfl|⟨u,m,rfl⟩
  ·simp at hlen
  ·obtain⟨n,h1,h2⟩:=hx.inv
   have hmL:=hu m (by simp)
   have hu':∀ z∈u,z∈L:=fun z hz=>hu z (by simp [hz])
   have hlen':u.length=v.length:=by simpa using hlen
   have hDn:Dn d L goal (r+1) n:=⟨m,hmL,x,h2,hd⟩
   rw [zas,zas] at hlt
   have hm6:=h6 m hmL
   have hl6:=h6 l hlL
   by_cases hw:wval u<wval v
   ·exact h.first u hu' hlen' hw n h1 hDn
   ·have e:wval u=wval v:=by omega
    obtain rfl:=wval_inj _ u v (Nat.le_refl _) (fun z hz=>h6 z (hu' z hz)) (fun z hz=>h6 z (h.letters z hz)) e
    obtain⟨j,hj⟩:=List.getElem?_of_mem hmL
    have hjk:j<k:=by
     rcases Nat.lt_trichotomy j k with h5|h5|h5
     ·exact h5
     ·subst h5
      rw [hk] at hj
      have:=Option.some.inj hj
      omega
     ·have:=hL.2 k j _ _ hk hj h5
      omega
    exact hno j m hjk hj n (h.all n h1 hDn) x h2 (min_ _ hu (by simp) x hx hd)
 ·exact h.least u hu (by rw [List.length_append,List.length_singleton] at hlen;omega)
 ·intro m hm
  rcases List.mem_append.1 hm with h5|h5
  ·exact h.letters m h5
  ·rw [List.mem_singleton.1 h5];exact hlL
theorem lost_of {x:Nat}(h:∀ m,¬ Dn d L goal m x):Lost d [x] goal L:=fun v hv y hy=>by
 cases hg:goal y
 ·rfl
 ·exfalso
  obtain⟨z,hz,hd⟩:=Goes.dn (v:=[]) (u:=v) (by simpa using hy) hg hv
  have:=hz.inv_nil
  simp at this
  subst this
  exact h _ hd
theorem goes_congr {d':Nat→Nat→List Nat} {start:List Nat} {N:Nat}(hs:∀ x∈start,x<N)(hd:∀ x l,x<N→l∈L→(∀ y,y∈d x l↔y∈d' x l)∧∀ y∈d x l,y<N) {v:List Nat}(hv:∀ l∈v,l∈L):∀ {x:Nat},(Goes d start v x↔Goes d' start v x)∧(Goes d start v x→x<N):=by
 have key:∀ n (v:List Nat),v.length=n→(∀ l∈v,l∈L)→∀ x,(Goes d start v x↔Goes d' start v x)∧(Goes d start v x→x<N):=by
  intro n
  induction n with
  |zero =>
   intro v hv _ x
   obtain rfl:=List.eq_nil_of_length_eq_zero hv
   exact⟨⟨fun h=>.nil h.inv_nil,fun h=>.nil h.inv_nil⟩,fun h=>hs x h.inv_nil⟩
  |succ n ih =>
   intro v hn hv x
   rcases zac v with rfl|⟨u,l,rfl⟩
   ·simp at hn
   ·have hl:=hv l (by simp)
    have ih':=ih u (by simpa using hn) (fun m hm=>hv m (by simp [hm]))
    refine⟨⟨fun h=>?_,fun h=>?_⟩,fun h=>?_⟩
    ·obtain⟨m,h1,h2⟩:=h.inv
     exact .snoc ((ih' m).1.1 h1) (((hd m l ((ih' m).2 h1) hl).1 x).1 h2)
    ·obtain⟨m,h1,h2⟩:=h.inv
     have h3:=(ih' m).1.2 h1
     exact .snoc h3 (((hd m l ((ih' m).2 h3) hl).1 x).2 h2)
    ·obtain⟨m,h1,h2⟩:=h.inv
     exact (hd m l ((ih' m).2 h1) hl).2 x h2
 exact fun {x}=>key v.length v rfl hv x
theorem zdO {l:List Nat}(h:l.Nodup) {p:Nat}(hl:∀ x∈l,x<p):l.length≤p:=by
 have h1:l ⊆ List.range p:=fun x hx=>List.mem_range.2 (hl x hx)
 have:=List.Nodup.length_le_of_subset h h1
 simpa using this
theorem Mn.lt {n x:Nat}(h:Mn d L goal n x)(hx:x<N)(hd:∀ x l,x<N→l∈L→∀ y∈d x l,y<N):n<N:=by
 have all:∀ n x,x<N→Mn d L goal n x→∃ ys:List Nat,ys.length=n+1∧ys.Nodup∧∀ y∈ys,y<N∧∃ m,m≤n∧Mn d L goal m y:=by
  intro n
  induction n with
  |zero=>intro x hx h;exact⟨[x],rfl,by simp,fun y hy=>by simp at hy;subst hy;exact⟨hx,0,Nat.le_refl _,h⟩⟩
  |succ n ih =>
   intro x hx h
   obtain⟨l,hl,y,hy,h1⟩:=h.next
   obtain⟨ys,h2,h3,h4⟩:=ih y (hd x l hx hl y hy) h1
   refine⟨x :: ys,by simp [h2],List.nodup_cons.2 ⟨fun hm=>?_,h3⟩,fun z hz=>?_⟩
   ·obtain⟨_,m,hm1,hm2⟩:=h4 x hm
    have:=h.uniq hm2
    omega
   ·rcases List.mem_cons.1 hz with rfl|hz
    ·exact⟨hx,n+1,Nat.le_refl _,h⟩
    ·obtain⟨h5,m,h6,h7⟩:=h4 z hz
     exact⟨h5,m,by omega,h7⟩
 obtain⟨ys,h1,h2,h3⟩:=all n x hx h
 have:=zdO h2 fun y hy=>(h3 y hy).1
 omega
end
set_option maxHeartbeats 4000000
def IntP:Lay Int:=fun _ _ _ r n=>r=.int .i64 n
theorem IntP.ok:Lay.Ok IntP:=⟨fun h _ _=>h,fun h _ _=>h⟩
theorem Lst.of_ints {W:World} {lo hi:Nat} {A:Option Addr} {xs:List Int}(h:Reads W lo hi 1 A xs.length (ints xs)):Lst IntP W lo hi A xs:=⟨ints xs,h,fun i r x hr hx=>by
 simp only [ints,List.getElem?_map,hx,Option.map_some] at hr
 exact (Option.some.inj hr).symm⟩
theorem Lst.int {W:World} {lo hi k:Nat} {A:Option Addr} {xs:List Int}(h:Lst IntP W lo hi A xs)(hk:k<xs.length):∃ b o x,A=some ⟨b,o,none⟩∧lo≤b∧b<hi∧Hid (xs[k]?=some x)∧W.cell? ⟨b,o+k,none⟩=some (.int .i64 x):=by
 obtain⟨b,o,r,x,e,h1,h2,h3,h4,h5⟩:=h.get hk
 exact⟨b,o,x,e,h1,h2,h3,by rw [h4,h5]⟩
def nearL (rows:List (List Nat)) (ds:List Int) (k:Int):Bool:=rows.any fun ys=>ys.any fun y=>ds.getD y (-1)==k
theorem near_row {d:Nat→Nat→List Nat} {L:List Nat} {ds:List Int} {k x:Nat}:nearL (L.map fun l=>d x l) ds (k:Int)=zgI d L ds k x:=by
 unfold nearL zgI
 rw [List.any_map]
 rfl
theorem any_stop {α:Type} {l:List α} {p:α→Bool} {k:Nat} {x:α}(h:l[k]?=some x)(hp:p x=true):l.any p=true:=List.any_eq_true.2 ⟨x,List.mem_of_getElem? h,hp⟩
theorem any_step {α:Type} {l:List α} {p:α→Bool} {k:Nat} {x:α}(h:l[k]?=some x)(hk:(l.take k).any p=false)(hp:p x=false):(l.take (k+1)).any p=false:=by
 rw [List.take_add_one,h]
 simp [hk,hp]
set_option maxRecDepth 100000 in
theorem spec_l4Near {lo hi lo' hi' r n c c':Nat} {A B:Option Addr} {rows:List (List Nat)} {ds:List Int} {k:Int} {w:World}(h:Lst (LstP NatP) w lo hi A rows)(h':Lst IntP w lo' hi' B ds)(hr:rows.length=r)(hn:ds.length=n)(hb:∀ ys∈rows,∀ y∈ys,y<n) :
  Calls Tryz.prog 213 #[.slice A r c,.slice B n c',.int .i64 k] w fun e w'=>e=.returned (.bool (nearL rows ds k))∧w=w':=by
 have Hb:=hide hb
 have Hr:=hide hr
 have Hn:=hide hn
 have hl1:=h.len
 have hl2:=h'.len
 rw [hr] at hl1
 rw [hn] at hl2
 clear hb hr hn
 go_enter Tryz.func213,Tryz.ntmps213
 go_wp2
 go_loop [7,8] (fun i _=>∃ a:Nat,i=.int .i64 a∧a≤r∧Hid ((rows.take a).any (fun ys=>ys.any fun y=>ds.getD y (-1)==k)=false)) (fun i _=>r - (intOf i).toNat)
 case atStart=>exact⟨0,rfl,Nat.zero_le _,rfl⟩
 case round =>
  obtain⟨a,rfl,ha,hno⟩:=hrel
  by_cases hlt:a<r
  ·obtain⟨b,o,v,ys,rfl,_,_,hys,hc,A',ca,rfl,hy⟩:=h.get (show a<rows.length by rw [Hr.out];exact hlt)
   have hly:=hy.len
   go_wp2
   go_loop [8] (fun i=>∃ j:Nat,i=.int .i64 j∧j≤ys.length∧Hid ((ys.take j).any (fun y=>ds.getD y (-1)==k)=false)) (fun i=>ys.length - (intOf i).toNat)
   case atStart=>exact⟨0,rfl,Nat.zero_le _,rfl⟩
   case round =>
    obtain⟨j,rfl,hj,hno2⟩:=hrel
    by_cases hlj:j<ys.length
    ·obtain⟨b2,o2,y,rfl,_,_,hyy,hc2⟩:=hy.num hlj
     have hyn:=Hb.out ys (List.mem_of_getElem? hys.out) y (List.mem_of_getElem? hyy.out)
     obtain⟨b3,o3,v,rfl,_,_,hv,hc3⟩:=h'.int (show y<ds.length by rw [Hn.out];exact hyn)
     have hgd:=hide (show ds.getD y (-1)=v by rw [List.getD_eq_getElem?_getD,hv.out];rfl)
     by_cases hvk:v=k
     ·subst hvk
      have hres:=hide (show nearL rows ds v=true from any_stop hys.out (any_stop hyy.out (by rw [hgd.out];simp)))
      go_wp2
      go_ret
      exact⟨zk (by rw [hres.out]),rfl⟩
     ·have hne:(v==k)=false:=by simp;omega
      have hst:=hide (any_step (p:=fun y=>ds.getD y (-1)==k) hyy.out hno2.out (show (ds.getD y (-1)==k)=false by rw [hgd.out];exact hne))
      go_wp2
      go_round
      case rel=>exact⟨j+1,by go_num,by omega,hst⟩
      case measure=>simp [intOf];omega
    ·obtain rfl:j=ys.length:=by omega
     rw [List.take_length] at hno2
     have hst:=hide (any_step (p:=fun ys=>ys.any fun y=>ds.getD y (-1)==k) hys.out hno.out hno2.out)
     go_wp2
     go_round
     case rel=>exact⟨a+1,by go_num,by omega,hst⟩
     case measure=>simp [intOf];omega
  ·obtain rfl:a=r:=by omega
   have hres:=hide (show nearL rows ds k=false by
    have:=hno.out
    rw [List.take_of_length_le (by rw [Hr.out];exact Nat.le_refl _)] at this
    exact this)
   go_wp2
   go_ret
   exact⟨zk (by rw [hres.out]),rfl⟩
theorem zbg.known {d:Nat→Nat→List Nat} {L:List Nat} {goal:Nat→Bool} {N k i:Nat} {ds:List Int} {v:Int}(h:zbg d L goal N k i ds)(hv:ds[i]?=some v)(h0:0≤v):¬ Mn d L goal k i:=fun hm=>by
 have h1:=h.2 i v hv
 rw [if_neg (by omega)] at h1
 rcases h1 with ⟨h2,_⟩|⟨n,h2,_,h3⟩
 ·omega
 ·have:=h3.uniq hm
  omega
theorem zbg.neg {d:Nat→Nat→List Nat} {L:List Nat} {goal:Nat→Bool} {N k i:Nat} {ds:List Int} {x:Nat} {v:Int}(h:zbg d L goal N k i ds)(hv:ds[x]?=some v)(h0:v<0):v = -1:=by
 rcases h.2 x v hv with ⟨h2,_⟩|⟨n,_,h2,_⟩
 ·exact h2
 ·omega
def RetDs (d:Nat→Nat→List Nat) (L:List Nat) (goal:Nat→Bool) (N base gd cap:Nat) (w:World) (e:Ending) (w':World):Prop:=
 e=.returned (.tuple #[])∧∃ ds',Hid (DsFin d L goal N ds')∧w'.ownsRow base 3 1 (.slice (some ⟨gd,0,none⟩) N cap) N (ints ds')∧Frm (fun k=>k=gd) w w'
set_option maxRecDepth 100000 in
theorem spec_l4Dist {lo hi N base gd cap c:Nat} {A:Option Addr} {d:Nat→Nat→List Nat} {L:List Nat} {goal:Nat→Bool} {ds:List Int} {w:World}(h:Lst P3 w lo hi A (mvs d L N))(hg:gd<lo∨hi≤gd)(hown:w.ownsRow base 3 1 (.slice (some ⟨gd,0,none⟩) N cap) N (ints ds))(hds:zbg d L goal N 1 0 ds)(hN:N≤1048576)(hd:∀ x l,x<N→l∈L→∀ y∈d x l,y<N) :
  Calls Tryz.prog 192 #[.slice A N c,.slice (some ⟨gd,0,none⟩) N cap] w (RetDs d L goal N base gd cap w):=by
 have HM:=hide (fun W (hW:Frm (fun k=>k=gd) w W)=>h.frm P3.ok hW (fun k h1 h2 e=>by omega))
 have Hd:=hide hd
 have Hown:=hide hown
 have Hds:=hide hds
 clear h hd hown hds
 go_enter Tryz.func192,Tryz.ntmps192
 go_wp2
 go_loopw [4,5,6] (fun m v _ wr=>∃ (k:Nat) (ds:List Int) (mb:Bool),m=.bool mb∧v=.int .i64 ((k:Int)+1)∧k≤N+1∧Hid (if mb=true then zbg d L goal N (k+1) 0 ds∧k+ds.count (-1)≤N else DsFin d L goal N ds)∧wr.ownsRow base 3 1 (.slice (some ⟨gd,0,none⟩) N cap) N (ints ds)∧Frm (fun k=>k=gd) w wr) (fun _ v _ _=>N+3 - (intOf v).toNat)
 case atStart=>exact⟨0,ds,true,rfl,rfl,by omega,(show Hid _ from by
  rw [if_pos rfl]
  refine⟨Hds.out,?_⟩
  have:=List.count_le_length (l:=ds) (a:=(-1:Int))
  rw [Hds.out.1] at this
  omega),Hown.out,Frm.refl _ _⟩
 case round =>
  clear Hown Hds
  clear ds
  obtain⟨k,ds,mb,rfl,rfl,hk,hst,hown,hfr⟩:=hrel
  cases mb
  ·have hfin:=hide (show RetDs d L goal N base gd cap w (.returned (.tuple #[])) wr from ⟨rfl,ds,(show DsFin d L goal N ds by have:=hst.out;simpa using this),hown,hfr⟩)
   clear hown
   go_wp2
   exact bodyPost_ret (v:=.tuple #[]) (by simp [results,Tryz.results192,go_sem]) rfl hfin.out
  ·obtain⟨hmid,hcnt⟩:zbg d L goal N (k+1) 0 ds∧k+ds.count (-1)≤N:=by have:=hst.out;simpa using this
   have Hmid:=hide hmid
   clear hst hmid
   obtain⟨c0,hc0⟩:∃ c0,Hid (ds.count (-1)=c0):=⟨_,rfl⟩
   rw [hc0.out] at hcnt
   go_wp2
   go_loopw [4,6] (fun m i wr=>∃ (i':Nat) (ds:List Int) (mb:Bool),m=.bool mb∧i=.int .i64 i'∧i'≤N∧Hid (zbg d L goal N (k+1) i' ds∧ds.count (-1)+(if mb=true then 1 else 0)≤c0∧(mb=false→∀ x,x<i'→¬ Mn d L goal (k+1) x))∧wr.ownsRow base 3 1 (.slice (some ⟨gd,0,none⟩) N cap) N (ints ds)∧Frm (fun k=>k=gd) w wr) (fun _ i _=>N - (intOf i).toNat)
   case atStart=>exact⟨0,ds,false,rfl,rfl,Nat.zero_le _,(show Hid _ from ⟨Hmid.out,by rw [hc0.out];simp,fun _ x hx=>by omega⟩),hown,hfr⟩
   case round =>
    clear Hmid hown hfr hc0
    clear ds
    obtain⟨i,ds,mb,rfl,rfl,hi,hst,hown,hfr⟩:=hrel
    by_cases hlt:i<N
    ·have hlen:ds.length=N:=hst.out.1.1
     obtain⟨bi,oi,v,hA,_,_,hv,hcv⟩:=(Lst.of_ints (xs:=ds) (by rw [hlen];exact Reads.of_own hown)).int (show i<ds.length by omega)
     obtain⟨rfl,rfl⟩:gd=bi∧0=oi:=by injection hA with e;injection e with e1 e2;exact⟨e1,e2⟩
     rw [Nat.zero_add] at hcv
     clear hA
     by_cases hv0:v<0
     ·have hv1:=hst.out.1.neg hv.out hv0
      subst hv1
      obtain⟨bm,om,r,row,rfl,_,_,hrow,hcm,Ar,cr,rfl,hrw⟩:=(HM.out wr hfr).get (show i<(mvs d L N).length by rw [zcv];exact hlt)
      have hrw0:=hide (show row=L.map fun l=>d i l by
       have h1:=hrow.out
       rw [mvs,List.getElem?_map,List.getElem?_range hlt] at h1
       exact (Option.some.inj h1).symm)
      have hnear:=hide (show nearL row ds (k:Int)=zgI d L ds k i by rw [hrw0.out];exact near_row)
      have hlst:=Lst.of_ints (xs:=ds) (by rw [hlen];exact Reads.of_own hown)
      have HC:=hide (spec_l4Near (c:=cr) (c':=cap) (k:=(k:Int)) hrw hlst rfl hlen (fun ys hys y hy=>by
       rw [hrw0.out] at hys
       obtain⟨l,hl,rfl⟩:=List.mem_map.1 hys
       exact Hd.out i l hlt hl y hy))
      have hkk:(k:Int)+1 - 1=(k:Int):=by omega
      cases hnb:zgI d L ds k i
      ·have hnl:=hide (hnear.out.trans hnb)
       have Hnb:=hide hnb
       clear hnb hrw hlst
       have hst2:=hide (show zbg d L goal N (k+1) (i+1) ds∧ds.count (-1)+(if mb=true then 1 else 0)≤c0∧(mb=false→∀ x,x<i+1→¬ Mn d L goal (k+1) x) from
        ⟨hst.out.1.keep Hd.out hv.out hv0 Hnb.out,hst.out.2.1,fun hm x hx=>by
         by_cases e:x=i
         ·subst e
          intro hM
          rw [(hst.out.1.near Hd.out hv.out hv0).2 hM] at Hnb
          exact absurd Hnb.out (by decide)
         ·exact hst.out.2.2 hm x (by omega)⟩)
       go_wp2_with (go_at_call 213;with_reducible refine HC.out.mono ?_;rw [hnl.out];rintro e w4 ⟨rfl,rfl⟩)
       go_roundw
       case rel=>exact⟨i+1,ds,mb,rfl,by go_num,by omega,hst2,hown,hfr⟩
       case measure=>simp [intOf];omega
      ·have hnl:=hide (hnear.out.trans hnb)
       have Hnb:=hide hnb
       clear hnb hrw hlst
       have hst2:=hide (show zbg d L goal N (k+1) (i+1) (ds.set i ((k+1:Nat):Int))∧(ds.set i ((k+1:Nat):Int)).count (-1)+(if true=true then 1 else 0)≤c0∧(true=false→∀ x,x<i+1→¬ Mn d L goal (k+1) x) from
        ⟨hst.out.1.put Hd.out hv.out hv0 Hnb.out,by
         have h1:=set_count (u:=((k+1:Nat):Int)) hv.out rfl (by omega)
         have h2:=hst.out.2.1
         simp only [if_true]
         cases mb
         ·simp at h2;omega
         ·simp at h2;omega,fun h=>by cases h⟩)
       have f0:=hown.frozenAt i
       have hss:=hown.stored i (.int .i64 ((k:Int)+1))
       have hset:(ints ds).set i (.int .i64 ((k:Int)+1))=ints (ds.set i ((k+1:Nat):Int)):=by
        rw [ints,ints,List.map_set];rfl
       rw [hset] at hss
       clear hset
       go_wp2_with (go_at_call 213;with_reducible refine HC.out.mono ?_;rw [hnl.out];rintro e w4 ⟨rfl,rfl⟩)
       go_roundw
       case rel=>exact⟨i+1,_,true,rfl,by go_num,by omega,hst2,hss.1,hfr.cell (p:=⟨gd,i,none⟩) rfl _⟩
       case measure=>simp [intOf];omega
     ·have hst2:=hide (show zbg d L goal N (k+1) (i+1) ds∧ds.count (-1)+(if mb=true then 1 else 0)≤c0∧(mb=false→∀ x,x<i+1→¬ Mn d L goal (k+1) x) from
       ⟨hst.out.1.skip hv.out (by omega),hst.out.2.1,fun hm x hx=>by
        by_cases e:x=i
        ·subst e
         exact hst.out.1.known hv.out (by omega)
        ·exact hst.out.2.2 hm x (by omega)⟩)
      go_wp2
      go_roundw
      case rel=>exact⟨i+1,ds,mb,rfl,by go_num,by omega,hst2,hown,hfr⟩
      case measure=>simp [intOf];omega
    ·obtain rfl:N=i:=by omega
     have hfin:=hide (show if mb=true then zbg d L goal N (k+1+1) 0 ds∧k+1+ds.count (-1)≤N else DsFin d L goal N ds by
      obtain⟨h1,h2,h3⟩:=hst.out
      cases mb
      ·rw [if_neg (by decide)]
       exact h1.fin Hd.out (h3 rfl)
      ·rw [if_pos rfl]
       refine⟨h1.round_,?_⟩
       simp at h2
       omega)
     have hk1:k+1≤N+1:=by omega
     go_wp2
     go_roundw
     case rel=>exact⟨k+1,ds,mb,rfl,by go_num,hk1,hfin,hown,hfr⟩
     case measure=>simp [intOf];omega
set_option maxHeartbeats 1000000
def Rd (w:World) (R M:Nat):Prop:=
 ∃ (A:Option Addr) (n c p:Nat),p≤M∧n≤2000∧Blk w R 94 #[.slice A n c,.int .i64 p]∧(0<n→∃ g o,A=some ⟨g,o,none⟩∧g<R∧∀ j,j<n→∃ b:Nat,b<256∧w.cell? ⟨g,o+j,none⟩=some (.int .u8 b))
def Dr (R:Nat) (w w':World):Prop:=Frm (fun k=>k=R) w w'
theorem Dr.refl (R:Nat) (w:World):Dr R w w:=Frm.refl _ _
theorem Dr.trans {R:Nat} {a b c:World}(h:Dr R a b) (k:Dr R b c):Dr R a c:=Frm.trans h k
theorem Dr.ext {R:Nat} {a b c:World}(h:Dr R a b) (k:Ext b c):Dr R a c:=Frm.ext h k
theorem Ext.dr {R:Nat} {a b:World}(h:Ext a b):Dr R a b:=h.toFrm
theorem Dr.drew {R:Nat} {a w:World}(h:Dr R a w):Dr R a w.drew:=⟨h.os,h.tape,h.output,h.size,h.block⟩
theorem Dr.drewN {R:Nat} {a w:World}(h:Dr R a w) (n:Nat):Dr R a (w.drewN n):=⟨h.os,h.tape,h.output,h.size,h.block⟩
theorem Dr.alloc {R:Nat} {a w:World}(h:Dr R a w) (o:Obj):Dr R a (w.alloc o):=h.ext ((Ext.refl _).alloc _)
theorem Dr.setNew {R:Nat} {a w:World}(h:Dr R a w) {p:Addr}(hp:a.heap.size≤p.block) (u:Value):Dr R a (w.setCell p u):=
 ⟨h.os,h.tape,h.output,by simpa [World.setCell] using h.size,fun k hk hn=>(Below.heap_setCell _ _ _ _ (by omega)).trans (h.block k hk hn)⟩
theorem Dr.grown {R:Nat} {a w w':World} {row:Option Nat}(h:Dr R a w)(hg:w.grownBy w' row)(hr:∀ k,row=some k→a.heap.size≤k):Dr R a w':=
 ⟨hg.os.trans h.os,hg.tape.trans h.tape,hg.output.trans h.output,Nat.le_trans h.size hg.size,
  fun k hk hn=>(hg.block k (Nat.lt_of_lt_of_le hk h.size) (fun e=>by have:=hr k e.symm;omega)).trans (h.block k hk hn)⟩
theorem Blk.dr {w w':World} {R g:Nat} {t:TypeId} {cs:Array Value}(h:Blk w g t cs)(hb:Dr R w w')(hg:g≠R):Blk w' g t cs:=h.frm hb hg
theorem Dr.cell_some {R:Nat} {w w':World}(h:Dr R w w') {p:Addr} {v:Value}(hv:w.cell? p=some v)(hp:p.block≠R):w'.cell? p=some v:=
 (World.cell?_of_block (w:=w) (h.block _ (World.block_lt_of_cell? w p hv) hp)).trans hv
theorem Rd.ext {w w':World} {R M:Nat}(h:Rd w R M)(hb:Ext w w'):Rd w' R M:=by
 obtain⟨A,n,c,p,hp,hn,hB,hx⟩:=h
 refine⟨A,n,c,p,hp,hn,hB.ext hb,fun h0=>?_⟩
 obtain⟨g,o,e,hg,hc⟩:=hx h0
 exact⟨g,o,e,hg,fun j hj=>by obtain⟨b,hb1,hb2⟩:=hc j hj;exact⟨b,hb1,hb.cell_some hb2⟩⟩
theorem Rd.more {w:World} {R M N:Nat}(h:Rd w R M)(hM:M≤N):Rd w R N:=by
 obtain⟨A,n,c,p,hp,r⟩:=h
 exact⟨A,n,c,p,Nat.le_trans hp hM,r⟩
theorem Rd.lt {w:World} {R M:Nat}(h:Rd w R M):R<w.heap.size:=by
 obtain⟨A,n,c,p,_,_,hB,_⟩:=h
 exact hB.lt
theorem Rd.frm {S:Nat→Prop} {w w':World} {R M:Nat}(h:Rd w R M)(hb:Frm S w w')(hS:∀ k,k≤R→¬ S k):Rd w' R M:=by
 obtain⟨A,n,c,p,hp,hn,hB,hx⟩:=h
 refine⟨A,n,c,p,hp,hn,hB.frm hb (hS R (Nat.le_refl _)),fun h0=>?_⟩
 obtain⟨g,o,e,hg,hc⟩:=hx h0
 exact⟨g,o,e,hg,fun j hj=>by
  obtain⟨b,hb1,hb2⟩:=hc j hj
  exact⟨b,hb1,(World.cell?_of_block (w:=w) (hb.block g (World.block_lt_of_cell? w _ hb2) (hS g (by omega)))).trans hb2⟩⟩
def RetPick (R M:Nat) (n:Int) (w:World) (e:Ending) (w':World):Prop:=∃ k:Nat,e=.returned (.int .i64 k)∧(1≤n→(k:Int)<n)∧(n<1→k=0)∧Rd w' R (M+1)∧Dr R w w'
theorem bits_xor_nat {a b:Nat}(ha:a<4611686018427387904)(hb:b<4611686018427387904):bits .xor .i64 (a:Int) (b:Int)=((a ^^^ b:Nat):Int):=by
 have hx:a ^^^ b<2 ^ 62:=Nat.xor_lt_two_pow (by simpa using ha) (by simpa using hb)
 show IntKind.i64.wrap ((BitVec.ofInt 64 (a:Int) ^^^ BitVec.ofInt 64 (b:Int)).toNat:Int)=_
 rw [BitVec.toNat_xor,zct a (by omega),zct b (by omega),IntKind.wrap_i64]
 omega
theorem zu {R M:Nat} {n:Int} {w:World}(h:Rd w R M)(hM:M≤1000000000) :
  Calls Tryz.prog 39 #[.pointer (some ⟨R,0,none⟩),.int .i64 n] w (RetPick R M n w):=by
 obtain⟨A,m,c,p,hp,hm,hB,hx⟩:=h
 have c0:=hB.cell 0
 have c1:=hB.cell 1
 have f1:=hB.frozen 1
 have hB1:=hB.set_ 1 (.int .i64 ((p:Int)+1))
 have hfr:=Frm.setCell w R 1 (.int .i64 ((p:Int)+1))
 have hpb:(p:Int)≤1000000000:=by omega
 have hRd:Hid (Rd (w.setCell ⟨R,1,none⟩ (.int .i64 ((p:Int)+1))) R (M+1)):=by
  refine hide ⟨A,m,c,p+1,by omega,hm,by simpa using hB1,fun h0=>?_⟩
  obtain⟨g,o,e,hg,hc⟩:=hx h0
  exact⟨g,o,e,hg,fun j hj=>by
   obtain⟨b,hb1,hb2⟩:=hc j hj
   exact⟨b,hb1,(World.cell?_of_block (w:=w) (hfr.block g (World.block_lt_of_cell? w _ hb2) (by show ¬ g=R;omega))).trans hb2⟩⟩
 simp only [List.getElem?_toArray,List.getElem?_cons_zero,List.getElem?_cons_succ] at c0 c1
 by_cases hn:n<1
 ·go_enter Tryz.func39,Tryz.ntmps39
  go_wp2
  go_ret
  exact⟨0,rfl,fun h=>by omega,fun _=>rfl,hRd.out,hfr⟩
 ·by_cases h0:m=0
  ·subst h0
   go_enter Tryz.func39,Tryz.ntmps39
   go_wp2
   go_ret
   exact⟨0,rfl,fun h=>by omega,fun _=>rfl,hRd.out,hfr⟩
  ·obtain⟨k,rfl⟩:∃ k:Nat,n=k:=⟨n.toNat,by omega⟩
   have hk1:(1:Int)≤(k:Int):=by omega
   obtain⟨g,o,rfl,hg,hc⟩:=hx (by omega)
   have hgR:¬ g=R:=by omega
   have hm0:(0:Int)<(m:Int):=by omega
   have hm2:(m:Int)≤2000:=by omega
   have he0:((m:Int)==0)=false:=by simp;omega
   have Hc:=hide hc
   clear hc hx
   by_cases hpm:p<m
   ·obtain⟨b,hb,hcb⟩:=Hc.out p hpm
    have hb0:(b:Int)<256:=by omega
    have hpm':(p:Int)<(m:Int):=by omega
    have hmod:=hide (Int.natCast_emod b k)
    go_enter Tryz.func39,Tryz.ntmps39
    go_wp2
    go_ret
    exact⟨b % k,zE hmod.out.symm,fun _=>by rw [hmod.out];exact Int.emod_lt_of_pos _ (by omega),fun h=>by omega,hRd.out,hfr⟩
   ·have hq1:p % m<m:=Nat.mod_lt _ (by omega)
    have hq2:(p*7+3) % m<m:=Nat.mod_lt _ (by omega)
    have hq3:p / m≤p:=Nat.div_le_self _ _
    obtain⟨b1,hb1,hc1⟩:=Hc.out _ hq1
    obtain⟨b2,hb2,hc2⟩:=Hc.out _ hq2
    have t1:(p:Int).tmod (m:Int)=((p % m:Nat):Int):=by rw [Int.tmod_eq_emod_of_nonneg (by omega)];exact (Int.natCast_emod p m).symm
    have t2:((p:Int)*7+3).tmod (m:Int)=(((p*7+3) % m:Nat):Int):=by rw [Int.tmod_eq_emod_of_nonneg (by omega)];rw [Int.natCast_emod];rfl
    have t3:(p:Int).tdiv (m:Int)=((p / m:Nat):Int):=by rw [Int.tdiv_eq_ediv_of_nonneg (by omega)];exact (Int.natCast_ediv p m).symm
    have hpm':(m:Int)≤(p:Int):=by omega
    have hg0:∀ j,(w.setCell ⟨R,1,none⟩ (.int .i64 ((p:Int)+1))).cell? ⟨g,j,none⟩=w.cell? ⟨g,j,none⟩:=fun j=>by
     refine World.cell?_of_block ?_
     exact Below.heap_setCell _ _ _ _ (fun h=>hgR h)
    have e1:=(hg0 _).trans hc1
    have e2:=(hg0 _).trans hc2
    have d0:(w.setCell ⟨R,1,none⟩ (.int .i64 ((p:Int)+1))).cell? ⟨R,0,none⟩=some (.slice (some ⟨g,o,none⟩) m c):=by simpa using hB1.cell 0
    have T1:=hide t1
    have T2:=hide t2
    have T3:=hide t3
    clear hg0 hc1 hc2 t1 t2 t3 hB hB1
    generalize p % m=q1 at *
    generalize (p*7+3) % m=q2 at *
    generalize p / m=q3 at *
    obtain⟨x,hx⟩:∃ x:Nat,x=b1*131+b2*1117+p*29+q3*53:=⟨_,rfl⟩
    have hxb:x<100000000000:=by omega
    obtain⟨y,hy⟩:∃ y:Nat,Hid (x ^^^ (x / 64)=y):=⟨_,rfl⟩
    have hxor:=hide (show bits .xor .i64 (x:Int) ((x:Int) / 64)=(y:Int) by rw [← hy.out];exact bits_xor_nat (a:=x) (b:=x / 64) (by omega) (by omega))
    have hyb:(y:Int)<1099511627776:=by
     have:x ^^^ (x / 64)<2 ^ 40:=Nat.xor_lt_two_pow (by omega) (by omega)
     rw [hy.out] at this
     omega
    have hmod:=hide (Int.natCast_emod y k)
    have hX:(b1:Int)*131+(b2:Int)*1117+(p:Int)*29+(q3:Int)*53=(x:Int):=by omega
    have HX:=hide hX
    clear hx hX
    go_enter Tryz.func39,Tryz.ntmps39
    go_wp2
    generalize w.setCell ⟨R,1,none⟩ (.int .i64 ((p:Int)+1))=w1 at *
    have t1:=T1.out
    have t2:=T2.out
    have t3:=T3.out
    have a1:IntKind.i64.wrap ((p:Int)*7)=(p:Int)*7:=IntWalk.i64_in _ (by omega)
    have a2:IntKind.i64.wrap ((p:Int)*7+3)=(p:Int)*7+3:=IntWalk.i64_in _ (by omega)
    have a3:IntKind.i64.wrap ((b1:Int)*131)=(b1:Int)*131:=IntWalk.i64_in _ (by omega)
    have a4:IntKind.i64.wrap ((b2:Int)*1117)=(b2:Int)*1117:=IntWalk.i64_in _ (by omega)
    have a5:IntKind.i64.wrap ((b1:Int)*131+(b2:Int)*1117)=(b1:Int)*131+(b2:Int)*1117:=IntWalk.i64_in _ (by omega)
    have a6:IntKind.i64.wrap ((p:Int)*29)=(p:Int)*29:=IntWalk.i64_in _ (by omega)
    have a7:IntKind.i64.wrap ((b1:Int)*131+(b2:Int)*1117+(p:Int)*29)=(b1:Int)*131+(b2:Int)*1117+(p:Int)*29:=IntWalk.i64_in _ (by omega)
    have a8:IntKind.i64.wrap ((q3:Int)*53)=(q3:Int)*53:=IntWalk.i64_in _ (by omega)
    have a9:IntKind.i64.wrap ((b1:Int)*131+(b2:Int)*1117+(p:Int)*29+(q3:Int)*53)=(x:Int):=by rw [HX.out];exact IntWalk.i64_in _ (by omega)
    have i1:(q1:Int)<(m:Int):=by omega
    have i2:(q2:Int)<(m:Int):=by omega
    have i3:(0:Int)≤(q1:Int):=by omega
    have i4:(0:Int)≤(q2:Int):=by omega
    go_quiet (fail)
    clear a1 a2 a3 a4 a5 a6 a7 a8 a9 t1 t2 t3
    have hxo:=hxor.out
    have hxb':(x:Int)<100000000000:=by omega
    go_wp2
    go_ret
    exact⟨y % k,zE hmod.out.symm,fun _=>by rw [hmod.out];exact Int.emod_lt_of_pos _ (by omega),fun h=>by omega,hRd.out,Dr.drewN hfr _⟩
set_option maxHeartbeats 1000000
def strs (l:List ByteArray):List Value:=l.map Value.string
theorem zbm (l:List ByteArray):(strs l).length=l.length:=by simp [strs]
theorem Reads.dr {w w':World} {R lo hi size n:Nat} {A:Option Addr} {xs:List Value}(h:Reads w lo hi size A n xs)(hb:Dr R w w')(hR:R<lo):Reads w' lo hi size A n xs:=
 h.frm hb (fun k h1 _ h2=>by omega)
def RetNum (R M:Nat) (l:List Int) (w:World) (e:Ending) (w':World):Prop:=∃ x,x∈l∧e=.returned (.int .i64 x)∧Rd w' R (M+1)∧Dr R w w'
def RetOf (R M:Nat) (l:List ByteArray) (w:World) (e:Ending) (w':World):Prop:=∃ x,x∈l∧e=.returned (.string x)∧Rd w' R (M+1)∧Dr R w w'
theorem l19Rd_num {R M lo hi n c:Nat} {A:Option Addr} {l:List Int} {w:World}(h:Rd w R M)(hM:M≤1000000000)(hL:Reads w lo hi 1 A n (ints l))(hlo:R<lo)(hn:0<n) :
  Calls Tryz.prog 88 #[.pointer (some ⟨R,0,none⟩),.slice A n c] w (RetNum R M l w):=by
 have hlen:=hL.len
 have hn1:(1:Int)≤(n:Int):=by omega
 go_enter Tryz.func88,Tryz.ntmps88
 go_wp2_with fail
 refine (zu h hM).mono ?_
 rintro e w1 ⟨k,rfl,hk1,_,hr,hd⟩
 have hkn:=hk1 hn1
 have hkn':k<n:=by omega
 obtain⟨ad,x,rfl,_,_,hx,hc⟩:=(hL.dr hd hlo).int hkn'
 clear hk1
 go_wp2_with fail
 go_ret
 exact⟨x,List.mem_of_getElem? hx.out,rfl,hr,hd⟩
theorem l19Rd_of {R M lo hi n c:Nat} {A:Option Addr} {l:List ByteArray} {w:World}(h:Rd w R M)(hM:M≤1000000000)(hL:Reads w lo hi 1 A n (strs l))(hlo:R<lo)(hn:0<n) :
  Calls Tryz.prog 92 #[.pointer (some ⟨R,0,none⟩),.slice A n c] w (RetOf R M l w):=by
 have hlen:=hL.len
 have hn1:(1:Int)≤(n:Int):=by omega
 go_enter Tryz.func92,Tryz.ntmps92
 go_wp2_with fail
 refine (zu h hM).mono ?_
 rintro e w1 ⟨k,rfl,hk1,_,hr,hd⟩
 have hkn:=hk1 hn1
 have hkn':k<n:=by omega
 obtain⟨ad,u,rfl,_,_,hu,hc⟩:=(hL.dr hd hlo).one hkn'
 obtain⟨x,hx,rfl⟩:∃ x,l[k]?=some x∧u=.string x:=by
  have:=hu.out
  simp only [strs,List.getElem?_map,Option.map_eq_some_iff] at this
  obtain⟨x,h1,h2⟩:=this
  exact⟨x,h1,h2.symm⟩
 have Hx:=hide hx
 clear hk1 hx
 go_wp2_with fail
 go_ret
 exact⟨x,List.mem_of_getElem? Hx.out,rfl,hr,hd⟩
def Bytes (w:World) (A:Option Addr) (n:Nat):Prop:=0<n→∃ g o,A=some ⟨g,o,none⟩∧g<w.heap.size∧∀ j,j<n→∃ b:Nat,b<256∧w.cell? ⟨g,o+j,none⟩=some (.int .u8 b)
theorem Bytes.ext {w w':World} {A:Option Addr} {n:Nat}(h:Bytes w A n)(hb:Ext w w'):Bytes w' A n:=fun h0=>by
 obtain⟨g,o,e,hg,hc⟩:=h h0
 exact⟨g,o,e,Nat.lt_of_lt_of_le hg hb.size,fun j hj=>by obtain⟨b,h1,h2⟩:=hc j hj;exact⟨b,h1,hb.cell_some h2⟩⟩
def RetOpen (w:World) (e:Ending) (w':World):Prop:=∃ R,e=.returned (.pointer (some ⟨R,0,none⟩))∧w.heap.size≤R∧Rd w' R 0∧Ext w w'
theorem spec_l19Open {A:Option Addr} {n c:Nat} {w:World}(h:Bytes w A n)(hn:n≤9223372036854775807)(hc:n≤c)(hc2:c≤9223372036854775807) :
  Calls Tryz.prog 36 #[.slice A n c] w (RetOpen w):=by
 by_cases hb:2000<n
 ·obtain⟨g,o,rfl,hg,hcell⟩:=h (by omega)
  have Hcell:=hide hcell
  clear hcell h
  have h1:(2000:Int)<(n:Int):=by omega
  have h2:(2000:Int)≤(c:Int):=by omega
  go_enter Tryz.func36,Tryz.ntmps36
  go_wp2
  go_ret
  refine⟨w.heap.size,rfl,Nat.le_refl _,⟨some ⟨g,o,none⟩,2000,c,0,by omega,by omega,Blk.new _ _ _,fun _=>⟨g,o,rfl,hg,fun j hj=>?_⟩⟩,(Ext.refl _).alloc _⟩
  obtain⟨b,h1,h2⟩:=Hcell.out j (by omega)
  exact⟨b,h1,((Ext.refl w).alloc _).cell_some h2⟩
 ·have Hh:=hide h
  clear h
  have h1:(n:Int)≤2000:=by omega
  go_enter Tryz.func36,Tryz.ntmps36
  go_wp2
  go_ret
  refine⟨w.heap.size,rfl,Nat.le_refl _,⟨A,n,c,0,by omega,by omega,Blk.new _ _ _,fun h0=>?_⟩,(Ext.refl _).alloc _⟩
  obtain⟨g,o,e,hg,hc⟩:=Hh.out h0
  exact⟨g,o,e,hg,fun j hj=>by obtain⟨b,h1,h2⟩:=hc j hj;exact⟨b,h1,((Ext.refl w).alloc _).cell_some h2⟩⟩
set_option maxHeartbeats 1000000
def RetStr (L:Nat) (w:World) (e:Ending) (w':World):Prop:=∃ s:ByteArray,e=.returned (.string s)∧s.size≤L∧Ext w w'
theorem zgB (w:World) (x:Int):(convert 22 9 (.slice (some ⟨w.heap.size,0,none⟩) 1 1)).run Tryz.prog (w.alloc (.cells #[.int .u8 x] 5))=.ok (.string (strOfNums [x])) (w.alloc (.cells #[.int .u8 x] 5)):=
 run_convert_bytes_arg _ _ 5 Tryz.underlying22 Tryz.underlying5 w.heap.size 0 1 1 [x] rfl (fun i hi=>by
  obtain rfl:i=0:=by omega
  rw [(Blk.new w 5 #[.int .u8 x]).cell];rfl) _ Tryz.underlying9
theorem zdr (x:Int):(strOfNums [x]).size=1:=by simp [strOfNums];rfl
theorem zfN {l:Int} {w:World}(h0:0≤l)(h1:l<6) :
  Calls Tryz.prog 131 #[.int .i64 l] w (RetStr 1 w):=by
 have hc:=zgB w
 go_enter Tryz.func131,Tryz.ntmps131
 go_wp2
 go_ret
 exact⟨_,rfl,Nat.le_of_eq (zdr _),(Ext.refl _).alloc _⟩
theorem zbj {a:Nat} {w:World}(ha:a<64) :
  Calls Tryz.prog 202 #[.int .i64 a] w (RetStr 6 w):=by
 have hsm:Sm a:=by unfold Sm;omega
 have hd:=hide (show decide (0≤(a:Int)∧(a:Int)≤63)=true by simp;omega)
 by_cases h0:a=0
 ·subst h0
  rw [show ((0:Nat):Int)=0 from rfl]
  have hd0:=hide (show decide ((0:Int)≤0∧(0:Int)≤63)=true by decide)
  go_enter Tryz.func202,Tryz.ntmps202
  go_wp2_with (go_at_call 96;refine (zM _ _).mono ?_;rw [hd0.out];rintro e w' ⟨rfl,rfl⟩)
  go_ret
  exact⟨_,rfl,by decide,Ext.refl _⟩
 ·have h0':((a:Int)==0)=false:=by simp;omega
  go_enter Tryz.func202,Tryz.ntmps202
  go_wp2_with fail
  refine (zM _ _).mono ?_
  rw [hd.out]
  rintro e w' ⟨rfl,rfl⟩
  go_wp2_with fail
  refine (zS a hsm _).mono ?_
  rintro e w1 ⟨B,d,rfl,hown1,hx1⟩
  have hl6:=zy a 6
  have hlm:=hide (fun k (hk:k∈letters a 6)=>(zcJ.1 hk).1)
  have hrd:=Reads.of_own hown1
  clear hown1
  generalize letters a 6=ls at *
  go_wp2_with fail
  go_loopw [3,5] (fun v i wr=>∃ k:Nat,k≤ls.length∧i=.int .i64 k∧∃ s:ByteArray,v=.string s∧s.size≤k∧Ext w1 wr) (fun _ i _=>ls.length - (intOf i).toNat)
  case atStart=>exact⟨0,Nat.zero_le _,rfl,_,rfl,Nat.le_refl _,Ext.refl _⟩
  case round =>
   obtain⟨k,hk,rfl,s,rfl,hs,hext⟩:=hrel
   by_cases hlt:k<ls.length
   ·obtain⟨ad,l,rfl,_,_,hl,hlc⟩:=(hrd.ext hext).nat hlt
    have hl6':=hlm.out l (List.mem_of_getElem? hl.out)
    go_wp2_with fail
    refine (zfN (l:=(l:Int)) (by omega) (by omega)).mono ?_
    rintro e w2 ⟨t,rfl,ht,hx2⟩
    have hst:s.size+t.size≤7:=by omega
    go_wp2_with fail
    go_roundw
    case rel=>exact⟨k+1,by omega,by go_num,_,rfl,by rw [ByteArray.size_append];omega,hext.trans hx2⟩
    case measure=>simp [intOf];omega
   ·obtain rfl:k=ls.length:=by omega
    go_wp2_with fail
    go_ret
    exact⟨s,rfl,by omega,hx1.trans hext⟩
def RetAl (w:World) (e:Ending) (w':World):Prop:=∃ (a:Nat) (ok:Bool),e=.returned (.tuple #[.int .i64 a,.bool ok])∧a<64∧Ext w w'
theorem zck {x:ByteArray} {w:World} :
  Calls Tryz.prog 159 #[.string x] w (RetAl w):=by
 go_enter Tryz.func159,Tryz.ntmps159
 go_wp2_with fail
 go_loopw [4] (fun i wr=>∃ k:Nat,k≤64∧i=.int .i64 k∧Ext w wr) (fun i _=>64 - (intOf i).toNat)
 case atStart=>exact⟨0,Nat.zero_le _,rfl,Ext.refl _⟩
 case round =>
  obtain⟨k,hk,rfl,hext⟩:=hrel
  by_cases hlt:k<64
  ·go_wp2_with fail
   refine (zbj hlt).mono ?_
   rintro e w2 ⟨t,rfl,ht,hx2⟩
   cases hxt:t.toList==x.toList
   ·go_wp2_with fail
    go_roundw
    case rel=>exact⟨k+1,by omega,by go_num,hext.trans hx2⟩
    case measure=>simp [intOf];omega
   ·go_wp2_with fail
    go_ret2
    exact⟨k,true,rfl,hlt,hext.trans hx2⟩
  ·obtain rfl:k=64:=by omega
   go_wp2_with fail
   go_ret2
   exact⟨0,false,rfl,by omega,hext⟩
theorem zcO {n:Nat} {w:World}(hn:n<100) :
  Calls Tryz.prog 203 #[.int .i64 n] w (RetStr 2 w):=by
 have hn1:(n:Int)<100:=by omega
 go_enter Tryz.func203,Tryz.ntmps203
 go_wp2_with fail
 go_loopw [0,3] (fun n' v wr=>∃ (m:Nat) (s:ByteArray),n'=.int .i64 m∧v=.string s∧(m<100∧s.size=0∨m<10∧s.size≤1)∧Ext w wr) (fun n' _ _=>(intOf n').toNat)
 case atStart=>exact⟨n,_,rfl,rfl,Or.inl ⟨hn,rfl⟩,Ext.refl _⟩
 case round =>
  obtain⟨m,s,rfl,rfl,hms,hext⟩:=hrel
  have hm100:m<100:=by omega
  have hc:=zgB wr
  have hso:=zdr
  by_cases hlt:9<m
  ·have hs0:s.size=0:=by omega
   have hdiv:=hide (Int.natCast_ediv m 10)
   have hm9:(9:Int)<(m:Int):=by omega
   have hs1:s.size≤1:=by omega
   have Hs0:=hide hs0
   clear hms hs0
   go_wp2_with fail
   go_roundw
   case rel=>exact⟨m / 10,_,by rw [hdiv.out];rfl,rfl,Or.inr ⟨by omega,by rw [ByteArray.size_append,zdr,Hs0.out];omega⟩,hext.alloc _⟩
   case measure=>simp [intOf];omega
  ·have hm9:(m:Int)≤9:=by omega
   have hs1:s.size≤1:=by omega
   clear hms
   go_wp2_with fail
   go_ret
   exact⟨_,rfl,by rw [ByteArray.size_append,zdr];omega,hext.alloc _⟩
end Go.Proofs.YtndhahednhnnbaaGreatDoor
