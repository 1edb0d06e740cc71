/- impl.firstPa -/
import Derived.Test.YtckbjnndaaoddaaGreatDoorT02
import Derived.Shelf.RegionOpenPlain
import Derived.Deep.LoopGhost
import Derived.Sort.WalkB12
import Derived.Lib.SlicesMore
import Derived.Laws.BytesArg
import Derived.IntWalk
set_option maxHeartbeats 4000000
set_option maxRecDepth 100000
namespace Go.Proofs.YtckbjnndaaoddaaGreatDoor
open Go Go.RowKit
open Blk renaming new->eO
open Bool renaming and_eq_true->dI,eq_false_iff->fH,false->kK,true->kC
open Ext renaming refl->dB
open Frm renaming refl->jC,setCell->dG
open Int renaming natCast_ediv->iZ,natCast_emod->iB
open List renaming append_nil->iA,eq_nil_of_length_eq_zero->eE,getD_eq_getElem?_getD->dF,getElem?_append_left->dJ,getElem?_append_right->eD,getElem?_cons_succ->jM,getElem?_eq_getElem->dE,getElem?_eq_none->eJ,getElem?_map->eC,getElem?_of_mem->eN,getElem_mem->fY,length_append->eA,length_map->eF,length_take->e9,map_append->eU,mem_of_getElem?->dC,mem_of_mem_take->gJ,pairwise_lt_range->kF,replicate->eG,take_add_one->eB,take_length->eZ,take_of_length_le->dK,any_eq_true->lG,getElem?_eq_some_iff->kT,mem_append->kY,mem_cons->lB,mem_map->kW,mem_singleton->lA
open Nat renaming eq_of_testBit_eq->fX,le_refl->dD,le_trans->dW,lt_of_lt_of_le->eI,lt_trichotomy->fI,mod_lt->iM,mul_le_mul->fK,pow_le_pow_right->eL,zero_add->eK,zero_le->dH
open Option renaming toList_some->eS,none->gP,some->gO
open Reads renaming af->eQ
open Go renaming Calls->kQ,Value->kL,World->kJ
open Go.Ending renaming returned->kP
open Go.IntKind renaming i64->kA
open Go.Value renaming pointer->kV,slice->fQ
open Option.some renaming inj->kS
open _root_.Go.Proofs.Tryz renaming prog->kN
variable {A AA PA SA:Option Addr}{G K v:Int}{L fr ns:List Nat}{M N R ac an base c c' cap g hi hi' i j k k0 kg l lo lo' m n off p pc pn q r sc x:Nat}{S T:Nat->Prop}{W a b w w':kJ}{capg cs:Array kL}{ds xs:List Int}{es:List Edg}{ss:List Sys}{sv:kL}{t:TypeId}
def zar (w:kJ) (A:Option Addr) (m:Nat) (l:List Nat):Prop:=
 m=l.length/\m<=9223372036854775807/\(0<m->∃ (g o:Nat) (cs:Array kL),A=gO ⟨g,o,gP⟩/\w.heap[g]?=gO (.cells cs 3 (0,0))/\∀ j x,l[j]?=gO x->w.cell? ⟨g,o+j,gP⟩=gO (.int kA (x:Nat)))
theorem zar.frm {l:List Nat}(h:zar w A m l)(hb:Frm S w w')(hS:∀ k,S k->∀ cs,w.heap[k]?≠gO (.cells cs 3 (0,0))):zar w' A m l:=by
 refine⟨h.1,h.2.1,fun h0=>?_⟩;obtain⟨g,o,cs,e,b,d⟩:=h.2.2 h0;have a:=(Array.getElem?_eq_some_iff.1 b).1;have c:¬ S g:=fun hs=>hS g hs cs b;exact⟨g,o,cs,e,(hb.block g a c).trans b,fun j x hx=>(World.cell?_of_block (w:=w) (hb.block g a c)).trans (d j x hx)⟩
theorem zar.ext {l:List Nat}(h:zar w A m l)(hb:Ext w w'):zar w' A m l:=h.frm (S:=fun _=>False) hb (fun _ hk=>hk.elim)
theorem zar.at_ {l:List Nat}(h:zar w A m l)(hk:k<m):∃ (g o x:Nat),A=gO ⟨g,o,gP⟩/\Hid (l[k]?=gO x)/\w.cell? ⟨g,o+k,gP⟩=gO (.int kA (x:Nat)):=by
 obtain⟨g,o,c,e,_,b⟩:=h.2.2 oM;have a:l[k]?=gO (l[k]'(oH h.1)):=dE _;exact⟨g,o,_,e,a,b k _ a⟩
theorem zar.own {l:List Nat}(h:w.ownsRow base 3 1 (fQ A n c) n (zag l)):zar w A n l:=by
 have i:=h.1;rw [nats_length] at i;refine⟨oM,(eQ h).len,fun h0=>?_⟩;rcases h.2 with ⟨_,m⟩|⟨g,b,a,k,_,f,_⟩
 ·omega
 ·have d:A=gO ⟨g,0,gP⟩:=by injection k
  subst d;refine⟨g,0,a,rfl,f,fun j x hx=>?_⟩;have o:=(kT.1 hx).1;rw [eK,h.cellAt j oM];simp [zag,hx]
theorem info_step:(kN.info? 272).map (fun i=>(i.zero,i.size,i.bytes))=gO (gO (.agg #[(0:Int),(0:Int),()]),3,40):=kM
def zcp:List (Stp × kL)->List kL
 |[]=>[]
 |(p,v) :: r=>.int kA p.parent :: .int kA (p.letter:Nat) :: v :: zcp r
theorem ziL (l m:List (Stp × kL)):zcp (l++m)=zcp l++zcp m:=by
 induction l with
 |nil=>rfl
 |cons x r ih=>obtain⟨p,v⟩:=x;simp [zcp,ih]
theorem zig {l:List (Stp × kL)}{p:Stp}{v:kL}(h:l[k]?=gO (p,v)):(zcp l)[k*3]?=gO (.int kA p.parent)/\(zcp l)[k*3+1]?=gO (.int kA (p.letter:Nat))/\(zcp l)[k*3+2]?=gO v:=by
 induction l generalizing k with
 |nil=>simp at h
 |cons a r ih =>
  cases k with
  |zero=>simp at h;subst h;exact⟨rfl,rfl,rfl⟩
  |succ k =>
   obtain⟨c,d⟩:=a;have:=ih (k:=k) (by simpa using h);have b:(k+1)*3=k*3+1+1+1:=oM;refine⟨?_,?_,?_⟩<;>rw [b]<;>simp only [zcp,jM]
   ·exact this.1
   ·exact this.2.1
   ·exact this.2.2
def Nodes (w:kJ) (sts:List (Stp × kL)):Prop:=∀ (k:Nat) (p:Stp) (v:kL),sts[k]?=gO (p,v)->∃ A c,v=fQ A p.nodes.length c/\zar w A p.nodes.length p.nodes
theorem Nodes.frm {sts:List (Stp × kL)}(h:Nodes w sts)(hb:Frm S w w')(hS:∀ k,S k->∀ cs,w.heap[k]?≠gO (.cells cs 3 (0,0))):Nodes w' sts:=fun k p v hk=>by
 obtain⟨A,c,e,hx⟩:=h k p v hk
 exact⟨A,c,e,hx.frm hb hS⟩
structure Sea (w0 w:kJ) (bs bg bt gs N cs:Nat) (fg:kL) (S:List Bool) (vst:kL) (sts:List (Stp × kL)):Prop where
 ext:Ext w0 w
 vs:Blk w bs 25 #[fQ (gO gs) N cs]
 ds:w.ownsRow w0.heap.size 4 1 (fQ (gO gs) N cs) N (zae S)
 vg:∃ t,Blk w bg t #[fg]
 vt:Blk w bt 270 #[vst]
 dt:w.ownsRow w0.heap.size 272 3 vst sts.length (zcp sts)
 nd:Nodes w sts
 hs:w0.heap.size<=bs
 hg:w0.heap.size<=bg
 ht:w0.heap.size<=bt
 hgt:bg≠bt
 hgg:bg≠gs
 hgv:∀ b,vst.ownBlock=gO b->b≠bg
section
variable {w0 w w':kJ}{bs bg bt gs N cs:Nat}{fg vst:kL}{S:List Bool}{sts:List (Stp × kL)}
theorem Sea.far {H:Nat}(h:Sea w0 w bs bg bt gs N cs fg S vst sts)(hb:Frm T w w')(hT:∀ k,T k->H<=k)(h1:bs<H)(h2:bg<H)(h3:bt<H)(h4:gs<H)(h5:∀ b,vst.ownBlock=gO b->b<H)(h0:w0.heap.size<=H)(hn:Nodes w' sts):Sea w0 w' bs bg bt gs N cs fg S vst sts:=by
 obtain⟨t,a⟩:=h.vg;refine⟨h.ext.frm hb (fun k hk hS=>by have:=hT k hS;omega),h.vs.frm hb (fun hS=>by have:=hT _ hS;omega),zf h.ds hb (fun b hv hS=>?_),⟨t,a.frm hb (fun hS=>by have:=hT _ hS;omega)⟩,h.vt.frm hb (fun hS=>by have:=hT _ hS;omega),zf h.dt hb (fun b hv hS=>by have:=hT _ hS;have:=h5 b hv;omega),hn,h.hs,h.hg,h.ht,h.hgt,h.hgg,h.hgv⟩;have c:gs=b:=by simpa [Value.ownBlock] using hv
 have:=hT _ hS;omega
theorem Sea.av (h:Sea w0 w bs bg bt gs N cs fg S vst sts)(hx:Ext w w'):Sea w0 w' bs bg bt gs N cs fg S vst sts:=by
 obtain⟨t,a⟩:=h.vg;exact⟨h.ext.trans hx,h.vs.ext hx,zh h.ds hx,⟨t,a.ext hx⟩,h.vt.ext hx,zh h.dt hx,h.nd.frm (S:=fun _=>False) hx (fun _ hk=>hk.elim),h.hs,h.hg,h.ht,h.hgt,h.hgg,h.hgv⟩
theorem Sea.gs_lt (h:Sea w0 w bs bg bt gs N cs fg S vst sts):w0.heap.size<=gs/\gs<w.heap.size:=h.ds.lt gs rfl
theorem Sea.gs_row (h:Sea w0 w bs bg bt gs N cs fg S vst sts):∃ cur,w.heap[gs]?=gO (.cells cur 4 (0,0)):=by
 rcases h.ds.2 with ⟨a,_⟩|⟨g,b,cur,a,_,c,_⟩
 ·injection a with h1;cases h1
 ·have:gs=g:=by injection a with h1;injection h1 with h1;injection h1
  subst this;exact⟨cur,c⟩
theorem Sea.vst_row (h:Sea w0 w bs bg bt gs N cs fg S vst sts){b:Nat}(hb:vst.ownBlock=gO b):∃ cur,w.heap[b]?=gO (.cells cur 272 (0,0)):=by
 rcases h.dt.2 with ⟨rfl,_⟩|⟨g,a,cur,rfl,_,d,_⟩
 ·simp [Value.ownBlock] at hb
 ·have c:g=b:=by simpa [Value.ownBlock] using hb
  subst c;exact⟨cur,d⟩
theorem Sea.mark (h:Sea w0 w bs bg bt gs N cs fg S vst sts) :Sea w0 (w.setCell ⟨gs,n,gP⟩ (.bool kC)) bs bg bt gs N cs fg (S.set n kC) vst sts:=by
 obtain⟨t,j⟩:=h.vg;obtain⟨m,o⟩:=h.gs_row;have d:=dG w gs n (.bool kC);have a:∀ {b:Nat} {t:TypeId} {cs:Array kL},w.heap[b]?=gO (.cells cs t (0,0))->t≠4->b≠gs:=by
  rintro b t cs g p rfl;rw [o] at g;injection g with g
  injection g with _ h2
  exact p h2.symm
 have f:(zae S).set n (.bool kC)=zae (S.set n kC):=by simp [zae,List.map_set]
 have c:=(h.ds.stored n (.bool kC)).1;rw [f] at c;refine⟨h.ext.setCell h.gs_lt.1 _,h.vs.frm d (a h.vs dM),c,⟨t,j.frm d h.hgg⟩,h.vt.frm d (a h.vt dM),zf h.dt d (fun b hv=>?_),h.nd.frm d (fun k hk cs hc=>?_),h.hs,h.hg,h.ht,h.hgt,h.hgg,h.hgv⟩
 ·obtain⟨l,i⟩:=h.vst_row hv;exact a i dM
 ·exact a hc dM hk
theorem Sea.push {A':Option Addr}{p:Stp}(h:Sea w0 w bs bg bt gs N cs fg S vst sts) (zkr:w'.ownsRow w0.heap.size 272 3 (fQ (gO g) (sts.length+1) cap) (sts.length+1) (zcp sts++[.int kA p.parent,.int kA (p.letter:Nat),fQ A' l c']))
  (hg:w.grownBy w' vst.ownBlock) (hat:vst.ownBlock=gO g\/g=w.heap.size+1) (hl:l=p.nodes.length) (hA:zar w A' l p.nodes) :
  Hid (w'.cell? bt=gO vst)/\w'.frozen? bt=kK/\Sea w0 (w'.setCell bt (fQ (gO g) (sts.length+1) cap)) bs bg bt gs N cs fg S (fQ (gO g) (sts.length+1) cap) (sts++[(p,fQ A' l c')]):=by
 obtain⟨t,x⟩:=h.vg;have o:=Frm.ae hg;have a:∀ {b:Nat} {t:TypeId} {cs:Array kL},w.heap[b]?=gO (.cells cs t (0,0))->t≠272->¬ (vst.ownBlock=gO b):=by
  intro b t cs c H d;obtain⟨f,F⟩:=h.vst_row d;rw [F] at c;injection c with c
  injection c with _ h2
  exact H h2.symm
 obtain⟨f,r⟩:=h.gs_row;have n:Blk w' bt 270 #[vst]:=h.vt.frm o (a h.vt dM);have z:=h.vs.frm o (a h.vs dM);have D:=zf h.ds o (fun b d=>by
  have c:gs=b:=by simpa [Value.ownBlock] using d
  subst c;exact a r dM)
 have y:=x.frm o (fun d=>h.hgv _ d rfl);have G:=h.nd.frm o (fun k hk cs hc=>a hc dM hk);have B:=hA.frm o (fun k hk cs hc=>a hc dM hk);have u:w'.heap[gs]?=gO (.cells f 4 (0,0)):=(o.block gs h.gs_lt.2 (a r dM)).trans r;have M:Ext w0 w':=h.ext.frm o (fun k hk d=>by have:=(h.dt.lt k d).1;omega);have s:g≠bg:=by
  rcases hat with i|i
  ·exact h.hgv g i
  ·have:=x.lt;omega
 have q:∃ f,w'.heap[g]?=gO (.cells f 272 (0,0)):=by
  rcases zkr.2 with ⟨d,_⟩|⟨L,I,f,d,_,F,_⟩
  ·injection d with i;cases i
  ·have:g=L:=by injection d with i;injection i with i;injection i
   subst this;exact⟨f,F⟩
 obtain⟨J,q⟩:=q;have j:=dG w' bt 0 (fQ (gO g) (sts.length+1) cap);have m:∀ {b:Nat} {t:TypeId} {cs:Array kL},w'.heap[b]?=gO (.cells cs t (0,0))->t≠270->b≠bt:=by
  rintro b t cs c H rfl;unfold Blk at n;rw [n] at c;injection c with c
  injection c with _ h2
  exact H h2.symm
 have E:=zf zkr j (fun b d=>by
  have c:g=b:=by simpa [Value.ownBlock] using d
  subst c;exact m q dM)
 have v:=G.frm j (fun k hk cs hc=>m hc dM hk);have C:=B.frm j (fun k hk cs hc=>m hc dM hk);refine⟨n.cell 0,n.frozen 0,M.setCell h.ht _,z.frm j (m z dM),zf D j (fun b d=>by
  have c:gs=b:=by simpa [Value.ownBlock] using d
  subst c;exact m u dM),⟨t,y.frm j h.hgt⟩,by simpa using n.ab 0 _,?_,?_,h.hs,h.hg,h.ht,h.hgt,h.hgg,fun b d=>?_⟩
 ·rw [ziL];simpa [zcp] using E
 ·intro k p' v' hk;rcases fI k sts.length with i|i|i
  ·rw [dJ i] at hk;exact v k p' v' hk
  ·rw [eD oM,i,Nat.sub_self] at hk;have:=kS hk;injection this with e1 e2
   subst e1;subst e2;subst hl;exact⟨A',c',rfl,C⟩
  ·rw [eJ (by simp;omega)] at hk;cases hk
 ·have c:g=b:=by simpa [Value.ownBlock] using d
  subst c;exact s
end
def RetVisit (w0 w:kJ) (bs bg bt gs N cs:Nat) (fg:kL) (S:List Bool) (sts:List (Stp × kL)) (goal:Nat->Bool) (parent:Int) (letter:Nat) (ns:List Nat) (e:Ending) (w':kJ):Prop:=
 e=kP (.bool ((vis S ns).2.any goal))/\Ext w0 w'/\w.heap.size<=w'.heap.size /\
  ∃ (vst:kL) (sts':List (Stp × kL)),Sea w0 w' bs bg bt gs N cs fg (vis S ns).1 vst sts' /\
   (((vis S ns).2=[]/\sts'=sts)\/((vis S ns).2≠[]/\∃ v,sts'=sts++[(⟨parent,letter,(vis S ns).2⟩,v)]))
theorem vis_take {S:List Bool}(h:ns[k]?=gO n):vis S (ns.take (k+1))=visN (vis S (ns.take k)) n:=by
 rw [eB,h];exact vis_snoc _ _ _
theorem Frm.grown_ {W':kJ}{row:Option Nat}(h:Frm T w W)(hg:W.grownBy W' row)(hr:∀ k,row=gO k->w.heap.size<=k):Frm T w W':=
 ⟨hg.os.trans h.os,hg.tape.trans h.tape,hg.output.trans h.output,dW h.size hg.size,fun k hk hn=>(hg.block k (eI hk h.size) (fun e=>by have:=hr k e.symm;omega)).trans (h.block k hk hn)⟩
theorem any_snoc {l:List Nat}{p:Nat->Bool}:(l++[n]).any p=(l.any p || p n):=sM
theorem zio {w0:kJ}{bs bg bt gs cs:Nat}{goal:Nat->Bool}{S:List Bool}{vst:kL}{sts:List (Stp × kL)}{letter:Nat}{parent:Int} 
  (h:Sea w0 w bs bg bt gs N cs (.func (.func kg) #[] capg) S vst sts) (hA:zar w A m ns) (hN:∀ n∈ns,n<N) (hm:m<=1099511627776) (hst:sts.length<=1073741824)
  (hin:∀ args W,(callFunc kg args).run kN W=.ok (.enter kg args) W) (hgoal:∀ W,Ext w0 W->∀ n,n<N->kQ kN kg (#[.int kA (n:Nat)]++capg) W fun e W'=>e=kP (.bool (goal n))/\Ext W W') :
  kQ kN 255 #[parent,letter,fQ A m c,kV (gO bs),kV (gO bg),kV (gO bt)] w (RetVisit w0 w bs bg bt gs N cs (.func (.func kg) #[] capg) S sts goal parent letter ns):=by
 have ax:=za (show S.length=N by have:=h.ds.1;rw [zcb] at this;omega);have ah:=za hA.1;have ad:=za hN;have s:=za hgoal;have X:=h.vs.lt;have G:bg<w.heap.size:=by obtain⟨t,hh⟩:=h.vg;exact hh.lt
 have h3:=h.vt.lt;have h4:=h.gs_lt;have h5:=za (fun b (hb:vst.ownBlock=gO b)=>(h.dt.lt b hb).2);have h0:=h.ext.size;have B:=za (show ∀ k,k=gs->∀ cs,w.heap[k]?≠gO (.cells cs 3 (0,0)) by
  rintro k rfl ar J;obtain⟨au,hh⟩:=h.gs_row;rw [hh] at J;injection J with J
  injection J with _ G
  exact absurd G dM)
 have Z:=za h.nd;clear hN hgoal
 go_enter Tryz.func255,Tryz.ntmps255
 go_wp2_with fail
 go_loopw [10,11,16] (fun v q i wr=>∃ k:Nat,k<=m/\i=.int kA k/\q=.bool ((vis S (ns.take k)).2.any goal)/\wr.ownsRow w.heap.size 3 1 v (vis S (ns.take k)).2.length (zag (vis S (ns.take k)).2)/\(vis S (ns.take k)).2.length<=k /\
   Sea w0 wr bs bg bt gs N cs (.func (.func kg) #[] capg) (vis S (ns.take k)).1 vst sts/\Frm (fun b=>b=gs) w wr) (fun _ _ i _=>m - (intOf i).toNat)
 case atStart=>exact⟨0,dH _,rfl,rfl,World.ownsRow_nil _ _ _ _,dH _,h,jC _ _⟩
 case round =>
  clear h;obtain⟨k,Y,rfl,rfl,f,y,h,z⟩:=hrel;have C:=za (show (vis S (ns.take k)).1.length=N by have:=h.ds.1;rw [zcb] at this;omega)
  by_cases hlt:k<m
  ·obtain⟨g,o,n,rfl,hx,J⟩:=(hA.frm z B.out).at_ hlt;have ag:=ad.out n (dC hx.out);have U:=za (vis_take (S:=S) hx.out);generalize vis S (ns.take k)=st at *;obtain⟨T,l⟩:=st;simp only at f y h C;obtain⟨V,O⟩:∃ V,Hid (T[n]?=gO V):=⟨_,dE (oH C.out)⟩;have Q:=za (show T.getD n kC=V by rw [dF,O.out];rfl);have cS:=h.vs.cell;have cD:wr.cell? ⟨gs,n,gP⟩=gO (.bool V):=by rw [h.ds.cellAt n oM];simp [zae,O.out]
   have fD:=h.ds.frozenAt n;cases V
   ·have a:=za (U.out.trans (show visN (T,l) n=(T.set n kC,l++[n]) by unfold visN;rw [if_neg (by rw [Q.out];decide)]));have af:=h.mark (n:=n);have L:Frm (fun b=>b=gs) w (wr.setCell ⟨gs,n,gP⟩ (.bool kC)):=z.cell rfl _;have am:=h4.2;have j:=zf f (dG wr gs n (.bool kC)) (fun b hv hS=>by have:=(f.lt b hv).1;omega);have ay:∃ tg,Blk wr bg tg #[.func (.func kg) #[] capg]:=h.vg;cases hfb:l.any goal
    all_goals
     have F:=za hfb;clear hfb;go_upto_region 8 with fail
     generalize wr.setCell ⟨gs,n,gP⟩ (.bool kC)=w2 at *;go_wp2_with (at_builtin;refine zL w _ rfl _ _ _ rfl 3 _ 1 8 Tryz.underlying110 zT rfl dM u10 l.length (zag l) _ _ rfl rfl L.size j rfl (by simp [Value.oneCell']) lM oM ?_;intro g5 cap5 w3 zkC hg3 hat3 hlt3;have D:Frm (fun b=>b=gs) w w3:=L.grown_ hg3 (fun k Y=>(j.lt k Y).1);have d:=af.far (Frm.ae hg3) (fun k Y=>(j.lt k Y).1) X G h3 h4.2 h5.out h0 (Z.out.frm D B.out);obtain⟨tg,I⟩:=d.vg;have aq:=I.cell)
    ·refine (s.out w3 d.ext n ag).mono (mQ fun w4 E=>?_);go_wp2_with fail
     go_roundw
     case rel=>exact⟨k+1,oM,gM,by rw [a.out,any_snoc,F.out];rfl,by rw [a.out];simpa [zag] using zh zkC E,by rw [a.out];simp;omega,by rw [a.out];exact d.av E,D.ext E⟩
     case measure=>exact uM
    ·go_roundw
     case rel=>exact⟨k+1,oM,gM,by rw [a.out,any_snoc,F.out];rfl,by rw [a.out];simpa [zag] using zkC,by rw [a.out];simp;omega,by rw [a.out];exact d,D⟩
     case measure=>exact uM
   ·have a:=za (U.out.trans (show visN (T,l) n=(T,l) by unfold visN;rw [if_pos Q.out]));go_wp2_with fail
    go_roundw
    case rel=>exact⟨k+1,oM,gM,by rw [a.out],by rw [a.out];exact f,by rw [a.out];exact Nat.le_succ_of_le y,by rw [a.out];exact h,z⟩
    case measure=>exact uM
  ·obtain rfl:k=m:=oM;have R:ns.take k=ns:=dK (oH ah.out);rw [R] at f y h ⊢;have ai:=z.size;clear R C;obtain⟨A',c',rfl⟩:=zi f;have H:=zar.own f;have u:=za (show ∀ W vst' sts',Sea w0 W bs bg bt gs N cs (.func (.func kg) #[] capg) (vis S ns).1 vst' sts'->w.heap.size<=W.heap.size->(((vis S ns).2=[]/\sts'=sts)\/((vis S ns).2≠[]/\∃ v,sts'=sts++[(⟨parent,letter,(vis S ns).2⟩,v)]))->RetVisit w0 w bs bg bt gs N cs (.func (.func kg) #[] capg) S sts goal parent letter ns (kP (.bool ((vis S ns).2.any goal))) W from fun W vst' sts' X G h3=>⟨rfl,X.ext,G,vst',sts',X,h3⟩);clear s hin;generalize vis S ns=st at *;obtain⟨T,l⟩:=st;simp only at f y h H u ⊢;generalize l.any goal=aa at *;cases hfr0:l with
   |nil =>
    subst hfr0;go_wp2_with fail
    go_ret;exact u.out _ _ _ h ai (Or.inl sM)
   |cons x r =>
    have al:0<l.length:=by rw [hfr0];simp
    have M:=za (show l≠[] by rw [hfr0];simp);rw [<- hfr0];clear hfr0;have cT:=h.vt.cell;go_wp2_with (at_builtin;refine zL w0 wr rfl _ _ _ rfl 272 _ 3 40 Tryz.underlying270 info_step rfl dM vst sts.length (zcp sts) _ _ rfl rfl h.ext.size h.dt rfl (by simp [Value.oneCell']) lM oM ?_;intro g5 cap5 w3 zkC hg3 hat3 hlt3;obtain⟨q1,q2,q3⟩:=h.push (p:=⟨parent,letter,l⟩) zkC hg3 hat3 rfl H;have aA:=q1.out;have an:=hg3.size)
    go_ret;exact u.out _ _ _ q3 (by simp;omega) (Or.inr ⟨M.out,_,rfl⟩)
section
open Go.Lib Go.Sort
abbrev ziW (n:Int):kL:=.int .u8 n
set_option maxRecDepth 1000000 in
theorem rev_bytes (blk off cap:Nat) (d:Array Int) (w:kJ)(hH:Holds ziW w blk off d)(hsz:d.size<=9223372036854775807) :
  kQ kN 293 #[fQ (gO ⟨blk,off,gP⟩) d.size cap] w fun e w'=>e=kP (.tuple #[])/\∃ n,w'=putRow ziW (Sort.ahead w n) blk off d.reverse:=by
 have p:kN.follows .mixedOrders=kC:=kM
 go_enter Tryz.func293,Tryz.ntmps293
 go_wp2
 go_loopg [2,3] d.size (fun k s2 s3 wr=>∃ (i a:Nat) (j:Int) (b:Array Int) (n:Nat),s2=.int kA i/\s3=.int kA j/\((i:Int)<j->j=a/\a<d.size)/\(¬ (i:Int)<j->¬ i<a)/\a - i<=k /\
  b.size=d.size/\wr=putRow ziW (Sort.ahead w n) blk off b/\reverseLoop i a b=reverseLoop 0 (d.size - 1) d)
 case atStart=>exact⟨0,d.size - 1,(d.size:Int) - 1,d,0,rfl,rfl,fun h=>⟨oM,oM⟩,fun h=>oM,oM,rfl,(putRow_self ziW w blk off d hH).symm,rfl⟩
 case round =>
  obtain⟨i,a,j,b,n,rfl,rfl,q,r,z,l,g,c⟩:=hrel
  by_cases hlt:(i:Int)<j
  ·obtain⟨rfl,t⟩:=q hlt;have o:i<a:=oM;have s:i<d.size:=oM;have f:Holds ziW wr blk off b:=by rw [g];exact holds_putRow ziW _ blk off d b (holds_ahead ziW w n blk off d hH) l
   obtain⟨u,x⟩:=f i oM;obtain⟨v,y⟩:=f a oM;have A:Aside (wr=putRow ziW (Sort.ahead w n) blk off b):=g;clear g f hH q r;go_wp2_with fail
   go_region_o
   go_wp2
   go_roundg (a - 1 - (i+1))
   case measure=>omega
   case rel =>
    rw [reverseLoop,if_pos o] at c;exact⟨i+1,a - 1,(a:Int) - 1,swp b i a,n+1,sM,rfl,fun h=>⟨oM,oM⟩,fun h=>oM,dD _,by rw [size_swp];exact l,
     swap_world ziW oM oM A.out (by first|rfl|simp [ziW,getElem!_pos,show a<b.size by omega]) (by first|rfl|simp [ziW,getElem!_pos,show i<b.size by omega]),c⟩
  ·have m:=r hlt;go_wp2
   go_end0
   refine⟨rfl,n,?_⟩;rw [reverseLoop,if_neg m] at c;rw [<- Lib.reverseLoop_reverse,<- c]
end
theorem zbI (hl:l<6) (w:kJ):kQ kN 126 #[.int kA (l:Nat)] w fun e w'=>e=kP (.int .u8 ((97+l:Nat):Nat))/\w=w':=by
 go_enter Tryz.func126,Tryz.ntmps126
 go_wp2;go_ret;exact⟨by rw [show (((97+l:Nat):Nat):Int)=97+(l:Int) by omega];rfl,rfl⟩
theorem rev_none (w:kJ):kQ kN 293 #[()] w fun e w'=>e=kP (.tuple #[])/\w'=w:=by
 go_enter Tryz.func293,Tryz.ntmps293
 go_wp2
 go_loopg [2,3] 0 (fun k s2 s3 wr=>s2=.int kA 0/\s3=.int kA (-1)/\wr=w)
 case atStart=>exact⟨rfl,rfl,rfl⟩
 case round =>
  obtain⟨rfl,rfl,rfl⟩:=hrel;go_wp2
  go_end0
  exact⟨rfl,rfl⟩
theorem zjN:(kN.info? 5).map (fun i=>(i.zero,i.size,i.bytes))=gO (gO (.int .u8 0),1,1):=kM
def lbs (o:List Nat):List Int:=o.map fun l=>((97+l:Nat):Int)
theorem lbs_reverse (o:List Nat):lbs o.reverse=(lbs o).reverse:=by simp [lbs]
def u8s (l:List Int):List kL:=l.map ziW
theorem Holds.own8 {e:TypeId}{l:List Int}(h:w.ownsRow base e 1 (fQ (gO g) n cap) n (u8s l)):Sort.Holds ziW w g 0 l.toArray:=by
 intro j hj;have a:j<l.length:=by simpa using hj
 have b:=h.1;simp only [u8s,eF] at b;refine⟨?_,by rw [eK];exact h.frozenAt j⟩;rw [eK,h.cellAt j oM];simp [u8s,a]
theorem Ext.putRow {d:Array Int}(h:Ext w W)(hg:w.heap.size<=g):Ext w (Sort.putRow ziW (Sort.ahead W n) g off d):=by
 refine⟨h.os,h.tape,h.output,?_,fun k hk _=>?_⟩
 ·show w.heap.size<=(W.heap.modify g _).size;rw [Array.size_modify];exact h.size
 ·show (W.heap.modify g _)[k]?=_;rw [Array.getElem?_modify,if_neg oM];exact h.heap hk
theorem u8_row:kN.underlying 22=gO (.slice 5):=kM
theorem u8_und:kN.underlying 5=gO (.int .u8):=kM
theorem zkk:kN.underlying 9=gO .string:=kM
theorem Ext.put_some {d:Array Int}(h:Ext w W)(hg:w.heap.size<=g)(hw:∃ n,w'=Sort.putRow ziW (Sort.ahead W n) g off d):Ext w w':=by
 obtain⟨n,rfl⟩:=hw;exact h.putRow hg
theorem conv_rev {o:List Nat}(h:Sort.Holds ziW W g 0 (lbs o).toArray)(hw:∃ n,w'=Sort.putRow ziW (Sort.ahead W n) g 0 (lbs o).toArray.reverse) :
  (convert 22 9 (fQ (gO g) o.length cap)).run kN w'=.ok (.string (strOfNums (lbs o.reverse))) w':=by
 obtain⟨n,rfl⟩:=hw;have c:=Sort.holds_putRow ziW _ g 0 _ (lbs o).toArray.reverse (Sort.holds_ahead ziW W n g 0 _ h) sM;refine run_convert_bytes_arg (P:=kN) _ 22 5 u8_row u8_und g 0 o.length cap (lbs o.reverse) (by simp [lbs]) (fun i hi=>?_) _ zkk;rw [(c i (by simpa [lbs] using hi)).1,lbs_reverse];have a:i<(lbs o).reverse.length:=by simpa [lbs] using hi
 have b:i<(lbs o).toArray.reverse.size:=by simpa [lbs] using hi
 rw [getElem!_pos (lbs o).toArray.reverse i b];simp [ziW,List.getD,dE a,-List.getElem?_reverse,-List.getElem_reverse]
theorem pathWord_any {sts:List (Stp × kL)}{ws:List (List Nat)}(h:w.ownsRow base 272 3 (fQ A n c) n (zcp sts))(hn:sts.length=n)(h0:0<n)(hsz:n<=1073741824)
  (hw:∀ (k:Nat) (p:Stp) (v:kL),sts[k]?=gO (p,v)->(p.parent = -1/\ws.getD k []=[])\/∃ a:Nat,p.parent=(a:Int)/\a<k/\p.letter<6/\ws.getD k []=ws.getD a []++[p.letter]) :
  kQ kN 256 #[fQ A n c] w fun e w'=>e=kP (.string (strOfNums (lbs (ws.getD (n - 1) []))))/\Ext w w':=by
 have L:=za hw;have J:=za hn;obtain⟨g,rfl⟩:∃ g,A=gO ⟨g,0,gP⟩:=by
  rcases h.2 with ⟨_,U⟩|⟨g,cap,z,hv,_⟩
  ·omega
  ·exact⟨g,by injection hv⟩
 have T:=(h.lt g rfl).2;have m:=za (fun (k:Nat) (p:Stp) (v:kL) (D:sts[k]?=gO (p,v))=>(show w.cell? ⟨g,k*3,gP⟩=gO (.int kA p.parent)/\w.cell? ⟨g,k*3+1,gP⟩=gO (.int kA (p.letter:Nat)) by
  have V:=(kT.1 D).1;obtain⟨M,O,_⟩:=zig D;rw [h.cellAt _ oM,h.cellAt _ oM];exact⟨M,O⟩))
 clear hw hn h
 go_enter Tryz.func256,Tryz.ntmps256
 go_wp2
 go_loopw [3,4] (fun v i wr=>∃ (k:Nat) (o:List Nat),k<n/\i=.int kA k/\wr.ownsRow w.heap.size 5 1 v o.length (u8s (lbs o))/\Hid (ws.getD (n - 1) []=ws.getD k []++o.reverse)/\o.length+k<n/\Ext w wr)
  (fun _ i _=>(intOf i).toNat)
 case atStart=>exact⟨n - 1,[],oM,by first|go_num|(congr 1;omega),World.ownsRow_nil _ _ _ _,by simp [Hid],by simp;omega,dB _⟩
 case round =>
  obtain⟨k,o,D,rfl,j,b,Z,r⟩:=hrel;obtain⟨p,v,y⟩:∃ p v,sts[k]?=gO (p,v):=⟨_,_,dE (oH J.out)⟩;obtain⟨F,G⟩:=m.out k p v y;have H:∀ W,Ext w W->W.cell? ⟨g,k*3,gP⟩=gO (.int kA p.parent):=fun W hW=>hW.aa F;have I:∀ W,Ext w W->W.cell? ⟨g,k*3+1,gP⟩=gO (.int kA (p.letter:Nat)):=fun W hW=>hW.aa G;obtain⟨ad,l,ns⟩:=p;dsimp only at H I;have X:(k:Int)<(n:Int):=oM;clear F G;rcases L.out k _ v y with ⟨d,f⟩|⟨a,d,S,s,f⟩
  ·dsimp only at d;subst d;have u:=za (show ws.getD (n - 1) []=o.reverse by rw [b.out,f];rfl);clear b f y;rcases j.2 with ⟨rfl,t⟩|⟨Q,cap,z,rfl,C,U,_⟩
   ·have Y:o=[]:=eE t;subst Y;have B:∀ W,(convert 22 9 (fQ gP 0 0)).run kN W=.ok (.string ByteArray.empty) W:=fun W=>run_convert_bytes_nil (P:=kN) W 22 5 u8_row u8_und _ _ _ zkk;go_wp2_with (go_at_call 293;refine (rev_none _).mono ?_;rintro e w' ⟨rfl,rfl⟩)
    go_ret;exact⟨by rw [u.out];rfl,r⟩
   ·have x:=rev_bytes Q 0 cap (lbs o).toArray wr (Holds.own8 j) (by simp [lbs];omega);rw [show (lbs o).toArray.size=o.length by simp [lbs]] at x;have R:=za (Holds.own8 j);go_wp2_with (go_at_call 293;refine x.mono (mQ fun w' q=>?_);have B:=conv_rev (cap:=cap) R.out q;have hx:=Ext.put_some r C q;clear q)
    go_ret;exact⟨by rw [u.out];rfl,hx⟩
  ·dsimp only at d f s;subst d;have E:=za (show ws.getD (n - 1) []=ws.getD a []++(o++[l]).reverse by rw [b.out,f];simp);clear b f y;go_wp2_with (first
    |(go_at_call 126;refine (zbI s _).mono ?_;rintro e w' ⟨rfl,rfl⟩)
    |(at_builtin;refine zV w wr rfl (.tmp 19) (.tmp 26) _ rfl 5 _ 1 1 Tryz.underlying22 zjN rfl dM u3 _ _ _ _ rfl rfl r j rfl (zjB _) lM oM ?_;intro v' w1 hext1 zkA hg1 hat1))
   go_roundw
   case rel=>exact⟨a,o++[l],oM,rfl,by simpa [u8s,lbs] using zkA,E,by simp;omega,aM⟩
   case measure=>exact uM
def zQ (w:kJ) (d:Nat->Nat->List Nat) (start:List Nat) (goal:Nat->Bool) (L:List Nat) (e:Ending) (w':kJ):Prop:=
 Ext w w'/\((∃ v,e=kP (.tuple #[.string (strOfNums (lbs v)),.bool kC])/\Found d start goal L v)\/(e=kP (.tuple #[ByteArray.empty,.bool kK])/\Lost d start goal L))
theorem Sea.start {w1:kJ}{fg:kL}(hx:Ext (w.alloc (.cells #[fg] t)) w1)(hsz:(w.alloc (.cells #[fg] t)).heap.size<w1.heap.size)(hg:Blk (w.alloc (.cells #[fg] t)) w.heap.size t #[fg]) (zkr:w1.ownsRow w.heap.size 4 1 (fQ (gO ⟨w.heap.size+1,0,gP⟩) N N) N (zae (eG N kK))) :
  Sea w ((w1.alloc (.cells #[fQ (gO ⟨w.heap.size+1,0,gP⟩) N N] 25)).alloc (.cells #[()] 270)) w1.heap.size w.heap.size (w1.heap.size+1) (w.heap.size+1) N N fg (eG N kK) (fQ gP 0 0) []:=by
 simp only [World.size_alloc] at hsz;have c:Ext w w1:=((dB w).alloc _).trans hx;have f:=eO w1 25 #[fQ (gO ⟨w.heap.size+1,0,gP⟩) N N];have d:=eO (w1.alloc (.cells #[fQ (gO ⟨w.heap.size+1,0,gP⟩) N N] 25)) 270 #[()];have a:Ext w1 ((w1.alloc (.cells #[fQ (gO ⟨w.heap.size+1,0,gP⟩) N N] 25)).alloc (.cells #[()] 270)):=((dB w1).alloc _).alloc _;refine⟨c.trans a,f.ext ((dB _).alloc _),zh zkr a,⟨t,hg.ext (hx.trans a)⟩,by simpa using d,World.ownsRow_nil _ _ _ _,fun k p v hk=>by simp at hk,oM,dD _,oM,oM,oM,fun b hb=>by simp [Value.ownBlock] at hb⟩
theorem sts_add {sts sts':List (Stp × kL)}{a:Int}(h:(fr=[]/\sts'=sts)\/(fr≠[]/\∃ v,sts'=sts++[(⟨a,l,fr⟩,v)])):sts'.map Prod.fst=addS (sts.map Prod.fst) a l fr:=by
 rcases h with ⟨b,rfl⟩|⟨b,v,rfl⟩
 ·rw [addS,if_pos b]
 ·rw [addS,if_neg b];simp
theorem Bfs.letters {d:Nat->Nat->List Nat}{start:List Nat}{goal:Nat->Bool}{S:List Bool}{st:List Stp}{ws:List (List Nat)}(h:Bfs d start goal L N S st ws i j):∀ (m k:Nat),k<=m->k<st.length->∀ l∈ws.getD k [],l∈L:=by
 intro m
 induction m with
 |zero =>
  intro k hk hlt l hl;obtain rfl:k=0:=oM;rw [h.zero _ (dE hlt)] at hl;cases hl
 |succ m ih =>
  intro k hk hlt l hl;rcases h.word k _ (dE hlt) with ⟨_,_,e⟩|⟨a,b,_,f,_,g,e⟩
  ·rw [e] at hl;cases hl
  ·rw [e] at hl;rcases kY.1 hl with c|c
   ·exact ih a oM oM l c
   ·rw [lA.1 c];exact dC g
theorem Bfs.words {d:Nat->Nat->List Nat}{start:List Nat}{goal:Nat->Bool}{S:List Bool}{st:List Stp}{ws:List (List Nat)}(h:Bfs d start goal L N S st ws i j)(hL:Rise L){a:Nat}(ha:a<st.length)(hl:l∈L) (k:Nat) (p:Stp)(hp:(st++[⟨a,l,fr⟩])[k]?=gO p) :
  (p.parent = -1/\(ws++[ws.getD a []++[l]]).getD k []=[])\/∃ b:Nat,p.parent=(b:Int)/\b<k/\p.letter<6/\(ws++[ws.getD a []++[l]]).getD k []=(ws++[ws.getD a []++[l]]).getD b []++[p.letter]:=by
 rcases fI k st.length with f|f|f
 ·rw [dJ f] at hp;rw [zfW _ (by rw [h.wl];exact f)];rcases h.word k p hp with ⟨_,g,m⟩|⟨b,c,g,m,_,n,o⟩
  ·exact Or.inl ⟨g,m⟩
  ·exact Or.inr ⟨b,g,m,hL.1 _ (dC n),by rw [zfW _ (by rw [h.wl];omega)];exact o⟩
 ·rw [f,eD (dD _),Nat.sub_self] at hp;obtain rfl:=kS hp;refine Or.inr ⟨a,rfl,oM,hL.1 _ hl,?_⟩;rw [f,<- h.wl,zhK,zfW _ (by rw [h.wl];exact ha)]
 ·rw [eJ (by simp;omega)] at hp;cases hp
theorem Frm.out {c:kJ}(h:Frm T a b) (k:Frm S b c)(hS:∀ x,S x->T x):Frm T a c:=h.trans (k.mono fun x _ hx=>hS x hx)
set_option maxHeartbeats 16000000 in
theorem zfV {kn cL:Nat}{AL:Option Addr}{capn:Array kL}{goal:Nat->Bool}{d:Nat->Nat->List Nat}{start:List Nat}{D:Nat}
  (hA:zar w A m start) (hstart:∀ n∈start,n<N) (hm:m<=1099511627776) (hL:zar w AL q L) (hrise:Rise L) (hN:N<=16777216) (hD:D<=4096)
  (hinn:∀ args W,(callFunc kn args).run kN W=.ok (.enter kn args) W) (hin:∀ args W,(callFunc kg args).run kN W=.ok (.enter kg args) W)
  (hgoal:∀ W,Ext w W->∀ n,n<N->kQ kN kg (#[.int kA (n:Nat)]++capg) W fun e W'=>e=kP (.bool (goal n))/\Ext W W')
  (hd:∀ n l,n<N->l∈L->(d n l).length<=D/\∀ x∈d n l,x<N)
  (hnext:∀ W,Ext w W->∀ n l,n<N->l∈L->∀ (base:Nat) (A:Option Addr) (m c:Nat) (xs:List Nat),w.heap.size<=base->base<=W.heap.size->m<=1099511627776->W.ownsRow base 3 1 (fQ A m c) m (zag xs) ->
   kQ kN kn (#[.int kA (n:Nat),.int kA (l:Nat),fQ A m c]++capn) W fun e W'=>∃ A' c',e=kP (.slice A' (xs++d n l).length c')/\W'.ownsRow base 3 1 (.slice A' (xs++d n l).length c') (xs++d n l).length (zag (xs++d n l))/\Frm (fun k=>(fQ A m c).ownBlock=gO k) W W') :
  kQ kN 175 #[.int kA (N:Nat),fQ A m c,fQ AL q cL,.func (.func kn) #[] capn,.func (.func kg) #[] capg] w (zQ w d start goal L):=by
 have HA:=za hA;have o:=za hstart;have M:=za hgoal;have al:=za hnext;have Hd:=za hd;have bF:q<=9223372036854775807:=hL.2.1;clear hA hstart hgoal hnext hd
 go_enter Tryz.func175,Tryz.ntmps175
 have aI:Ext w (w.alloc (.cells #[.func (.func kg) #[] capg] 126)):=(dB w).alloc _;have z:=za (eO w 126 #[.func (.func kg) #[] capg]);go_upto_region 4 with (at_make;refine zbo w _ rfl _ _ 25 rfl 4 _ 1 1 Tryz.underlying25 zaW _ _ N rfl rfl aI oM lM ?_;intro w1 hext1 zkA hx1 hsz1)
 have aO:w1.ownsRow w.heap.size 4 1 (fQ (gO ⟨w.heap.size+1,0,gP⟩) N N) N (zae (eG N kK)):=by
  have h:=zkA;rw [World.size_alloc] at h;simpa [zae,Value.cells,toList_madeCells_one] using h
 have ah:=Sea.start hx1 hsz1 z.out aO;obtain⟨w2,U0⟩:∃ x,Hid ((w1.alloc (.cells #[fQ (gO ⟨w.heap.size+1,0,gP⟩) N N] 25)).alloc (.cells #[()] 270)=x):=⟨_,za rfl⟩;have aJ:Ext w w2:=((hext1.alloc _).alloc _).trans (Ext.eq_ U0.out);clear zkA aO hx1 hsz1 z hext1 aI;generalize w1.heap.size+1=bt at *;generalize w1.heap.size=bs at *;rw [U0.out] at *;have au:=zhx (eG N kK) start (fun n Q=>by have:=o.out n Q;simpa using this);cases hg:(vis (eG N kK) start).2.any goal
 ·have Hg:=za hg;have G:=za (Bfs.begin_ (d:=d) (L:=L) (goal:=goal) o.out (fun x J=>by
   cases z:goal x
   ·rfl
   ·rw [lG.2 ⟨x,J,z⟩] at hg;cases hg))
  have hC:=za ((Cnt.nil N).add (-1) 0 start);clear hg au;go_wp2_with (go_at_call 255;refine (zio (letter:=0) (parent := -1) ah (HA.out.ext aJ) o.out hm sM hin M.out).mono ?_;rintro e w3 ⟨rfl,av,aG,F,a,X,f⟩;rw [Hg.out];have Y:=za (sts_add f);clear f)
  go_loopw [15,17,18,20] (fun i l r x wr=>∃ (k:Nat) (S:List Bool) (F:kL) (a:List (Stp × kL)) (ws:List (List Nat)),i=.int kA k/\k<=a.length/\a.length<=N/\Sea w wr bs w.heap.size bt (w.heap.size+1) N N (.func (.func kg) #[] capg) S F a/\Hid (Bfs d start goal L N S (a.map Prod.fst) ws k 0)/\Hid (Cnt S (a.map Prod.fst)))
   (fun i _ _ _ _=>N+1 - (intOf i).toNat)
  case atStart =>
   simp only [List.map_nil] at Y;have H:=G.out;have O:=hC.out;rw [<- Y.out] at H O;exact⟨0,_,F,a,_,rfl,dH _,by have:=O.steps H.some_;rw [H.len] at this;simpa using this,X,za H,za O⟩
  case round =>
   clear X Y G hC av aG;clear F a;obtain⟨k,S,F,a,ws,rfl,hk,af,E,G,hC⟩:=hrel;obtain⟨Av,cv,rfl⟩:=zi E.dt;have cT:=E.vt.cell 0
   by_cases hlt:k<a.length
   ·have am:((k:Int)<(a.length:Int)):=oM;go_wp2
    go_loopw [17,18,20,35] (fun _ _ _ i2 wi=>∃ (j:Nat) (S:List Bool) (F:kL) (a:List (Stp × kL)) (ws:List (List Nat)),i2=.int kA j/\j<=q/\k<a.length/\a.length<=N/\Sea w wi bs w.heap.size bt (w.heap.size+1) N N (.func (.func kg) #[] capg) S F a/\Hid (Bfs d start goal L N S (a.map Prod.fst) ws k j)/\Hid (Cnt S (a.map Prod.fst)))
     (fun _ _ _ i2 _=>q - (intOf i2).toNat)
    case atStart=>exact⟨0,S,_,a,ws,rfl,dH _,hlt,af,E,G,hC⟩
    case round =>
     clear E G hC cT hlt am hk af;rename kJ=>wi
     obtain⟨j,S,F,a,ws,rfl,hj,hk,af,E,G,hC⟩:=hrel
     by_cases hjq:j<q
     ·obtain⟨gl,ol,l,rfl,aw,aD⟩:=hL.at_ hjq;have cL:wi.cell? ⟨gl,ol+j,gP⟩=gO (.int kA (l:Nat)):=E.ext.aa aD;have R:=za (dC aw.out);obtain⟨⟨⟨pp,pl,I⟩,vk⟩,ae⟩:∃ x,Hid (a[k]?=gO x):=⟨_,dE hk⟩;obtain⟨Ak,ck,rfl,T⟩:=E.nd k _ vk ae.out;dsimp only at T ae;have V:=za (show (a.map Prod.fst)[k]?=gO ⟨pp,pl,I⟩ by rw [eC,ae.out];rfl);have aq:=List.length_pos_iff.2 (G.out.some_ k _ V.out);have aW:I.length<=N:=by have:=hC.out.nodes V.out;rw [G.out.len] at this;exact this
      have s:=za (G.out.small k _ V.out);dsimp only at aq s;have cV:wi.cell? bt=gO F:=E.vt.cell 0;obtain⟨Av,cv,rfl⟩:=zi E.dt;obtain⟨gv,rfl⟩:∃ gv,Av=gO ⟨gv,0,gP⟩:=by
       rcases E.dt.2 with ⟨_,hh⟩|⟨g,bq,bu,hv,_⟩
       ·omega
       ·exact⟨g,by injection hv⟩
      obtain⟨mk,ap⟩:∃ mk,Hid (mk=I.length):=⟨_,rfl⟩;have cK:wi.cell? ⟨gv,k*3+2,gP⟩=gO (fQ Ak mk ck):=by
       rw [E.dt.cellAt _ oM,ap.out];exact (zig ae.out).2.2
      rw [<- ap.out] at T aq aW;obtain⟨gk,ok,_,rfl,_,_⟩:=T.at_ aq;have aQ:=za T;have h1:=E.vs.lt;have h2:w.heap.size<wi.heap.size:=by obtain⟨t,hh⟩:=E.vg;exact hh.lt
      have h3:=E.vt.lt;have h4:=E.gs_lt.2;have h0:=E.ext.size;have az:=za (show ∀ b,wi.heap.size<=b->∀ cs,wi.heap[b]?≠gO (.cells cs 3 (0,0)) from fun b hb cs hc=>by
       have:=(Array.getElem?_eq_some_iff.1 hc).1;omega)
      have bG:=(E.dt.lt gv rfl).2;have ay:=za (fun W (hW:Frm (fun b=>wi.heap.size<=b) wi W)=>E.far hW (fun _ h=>h) h1 h2 h3 h4 (fun b hb=>by have:gv=b:=(by simpa [Value.ownBlock] using hb);omega) h0 (E.nd.frm hW az.out));have bD:(k:Int)<(a.length:Int):=oM;have bC:(j:Int)<(q:Int):=oM;clear T aD E h1 h3 h4;go_wp2_with fail
      go_loopw [18,20,45] (fun v _ i3 wr=>∃ i:Nat,i3=.int kA i/\i<=mk/\wr.ownsRow wi.heap.size 3 1 v (reach d l (I.take i)).length (zag (reach d l (I.take i)))/\Frm (fun b=>wi.heap.size<=b) wi wr) (fun _ _ i3 _=>mk - (intOf i3).toNat)
      case atStart=>exact⟨0,rfl,dH _,World.ownsRow_nil _ _ _ _,jC _ _⟩
      case round =>
       obtain⟨i,rfl,hi,aa,ad⟩:=hrel;have aC:=za (ay.out wr ad);have a0:=ad.size;have aZ:(reach d l (I.take i)).length<=1099511627776 - 4096:=by
        have e1:=reach_len (d:=d) (l:=l) (D:=D) (ns:=I.take i) (fun n Q=>(Hd.out n l (s.out n (gJ Q)) R.out).1);have e2:=fK (show (I.take i).length<=16777216 by rw [e9];omega) hD;omega
       obtain⟨A0,c0,rfl⟩:=zi aa;clear cL cV cK
       by_cases hil:i<mk
       ·obtain⟨g',o',n,aB,Q,cN⟩:=(aQ.out.frm ad az.out).at_ hil;obtain⟨rfl,rfl⟩:gk=g'/\ok=o':=by injection aB with e;injection e with e1 e2;exact⟨e1,e2⟩
        have aF:=s.out n (dC Q.out);have aX:=za (al.out wr aC.out.ext n l aF R.out wi.heap.size A0 _ c0 _ h0 a0 oM aa);clear aB;go_wp2_with fail
        refine aX.out.mono ?_;rintro e w4 ⟨A',c',rfl,U,aV⟩;have aE:=za (fun b (hb:(Value.slice A0 (reach d l (I.take i)).length c0).ownBlock=gO b)=>(aa.lt b hb).1);go_wp2_with fail
        go_roundw
        case rel=>exact⟨i+1,gM,oM,by rw [reach_take Q.out];rw [eA] at U ⊢;exact U,ad.out aV aE.out⟩
        case measure=>exact uM
       ·obtain rfl:i=mk:=oM;have a1:I.take i=I:=dK (oH ap.out);rw [a1] at aa aZ ⊢;have ar:=za (fun x (J:x∈reach d l I)=>by
         obtain⟨n,Q,J⟩:=zhS.1 J;exact (Hd.out n l (s.out n Q) R.out).2 x J)
        have ai:=za (zio (letter:=l) (parent:=(k:Int)) (c:=c0) aC.out (zar.own aa) ar.out oM oM hin M.out);cases hg:(vis S (reach d l I)).2.any goal
        ·have Hg:=za hg;have H:=za (G.out.step hrise V.out aw.out (fun x=>zhS) ar.out (fun x J=>by
          cases z:goal x
          ·rfl
          ·rw [lG.2 ⟨x,J,z⟩] at hg;cases hg))
         have O:=za (hC.out.add (k:Int) l (reach d l I));clear hg;go_wp2_with fail
         refine ai.out.mono ?_;rintro e w4 ⟨rfl,aK,aH,aj,C,B,f⟩;rw [Hg.out];have Y:=za (sts_add f);have bh:a.length<=C.length:=by
          rcases f with ⟨_,rfl⟩|⟨_,v,rfl⟩<;>simp
         rw [<- Y.out] at H O;go_wp2_with fail
         go_roundw
         case rel=>exact⟨j+1,_,aj,C,_,gM,oM,oM,(by have:=O.out.steps H.out.some_;rw [H.out.len] at this;simpa using this),B,H,O⟩
         case measure=>exact uM
        ·have Hg:=za hg;obtain⟨x,J,z⟩:=lG.1 hg;have ag:=((zhx S (reach d l I) (fun n Q=>by rw [G.out.len];exact ar.out n Q)).2.2 x).1 J;obtain⟨n,Q,aL⟩:=zhS.1 ag.1;have hF:=za (show Found d start goal L (ws.getD k []++[l]) from ⟨fun m hm=>(by
          rcases kY.1 hm with h|h
          ·exact G.out.letters k k (dD _) (by simpa using hk) m h
          ·rw [lA.1 h];exact R.out),⟨x,(G.out.goes k _ V.out n Q).snoc aL,z⟩,fun u hu hlt y hy=>G.out.found hrise (by simpa using hk) aw.out hu hlt hy⟩)
         clear hg z ag aL;go_wp2_with fail
         refine ai.out.mono ?_;rintro e w4 ⟨rfl,aK,aH,aj,C,B,f⟩;rw [Hg.out];obtain⟨_,v4,Z⟩:(vis S (reach d l I)).2≠[]/\∃ v,C=a++[(⟨(k:Int),l,(vis S (reach d l I)).2⟩,v)]:=by
          rcases f with ⟨h,_⟩|h
          ·rw [h] at J;cases J
          ·exact h
         have an:C.length=a.length+1:=by rw [Z];simp
         obtain⟨A4,c4,rfl⟩:=zi B.dt;have bp:=B.vt.cell 0;have aY:=za (show kQ kN 256 #[fQ A4 C.length c4] w4 fun e w'=>e=kP (.string (strOfNums (lbs (ws.getD k []++[l]))))/\Ext w4 w' by
          have aN:=pathWord_any (ws:=ws++[ws.getD k []++[l]]) B.dt rfl oM oM (fun i p v hi=>by
           have hm:(C.map Prod.fst)[i]?=gO p:=by rw [eC,hi];rfl
           rw [Z,eU] at hm;exact G.out.words hrise (by simpa using hk) R.out i p hm)
          rw [an,Nat.add_sub_cancel,show a.length=ws.length by have:=G.out.wl;simpa using this.symm,zhK] at aN;rw [an,show a.length=ws.length by have:=G.out.wl;simpa using this.symm];exact aN)
         clear J f Z an;go_wp2_with fail
         refine aY.out.mono (mQ fun w5 a3=>?_);go_wp2_with fail
         go_ret2;exact⟨aK.trans a3,Or.inl ⟨_,rfl,hF.out⟩⟩
     ·obtain rfl:j=q:=oM;have bE:=hL.1;have aT:=za (G.out.row oM);go_wp2;go_roundw
      case rel=>exact⟨k+1,S,F,a,ws,gM,oM,af,E,aT,hC⟩
      case measure=>exact uM
   ·obtain rfl:k=a.length:=oM;have ao:=za (show Lost d start goal L from fun v hv x J=>G.out.none sM hv J);have ag:=E.ext;go_wp2;go_ret2;exact⟨ag,Or.inr ⟨rfl,ao.out⟩⟩
 ·have Hg:=za hg;obtain⟨x,J,z⟩:=lG.1 hg;have hF:=za (show Found d start goal L [] from ⟨fun l hl=>(by cases hl),⟨x,.nil ((au.2.2 x).1 J).1,z⟩,fun u _ hu=>by rw [zgw] at hu;omega⟩);clear hg au;go_wp2_with (go_at_call 255;refine (zio (letter:=0) (parent := -1) ah (HA.out.ext aJ) o.out hm sM hin M.out).mono ?_;rintro e w' ⟨rfl,av,_⟩;rw [Hg.out])
  go_ret2;exact⟨av,Or.inl ⟨[],rfl,hF.out⟩⟩
theorem stepB_low (hf:Few k0 es)(hb:x.testBit j=kC)(hl:∀ i,i<j->x.testBit i=kK) (l:Int):zbK es x l=succ es j l|||zbK es (x - 2 ^ j) l:=by
 apply fX;intro k;rw [Nat.testBit_or,Bool.eq_iff_iff,Bool.or_eq_true,zcG,zcG,zdA];constructor
 ·rintro ⟨e,b,⟨c,a⟩,d⟩;have:=hf e b
  by_cases e1:e.fr.toNat=j
  ·exact Or.inl ⟨e,b,⟨oM,c⟩,d⟩
  ·refine Or.inr ⟨e,b,⟨c,?_⟩,d⟩;rw [zdf hb hl,a];simp [e1]
 ·rintro (⟨e,b,⟨c,a⟩,d⟩|⟨e,b,⟨c,a⟩,d⟩)
  ·exact⟨e,b,⟨a,by rw [c];exact hb⟩,d⟩
  ·rw [zdf hb hl] at a;simp only [dI] at a;exact⟨e,b,⟨c,a.1⟩,d⟩
theorem stepB_zero (es:List Edg) (l:Int):zbK es 0 l=0:=by
 apply fX;intro k;rw [Nat.zero_testBit,fH];intro h;obtain⟨e,_,⟨_,a⟩,_⟩:=(zcG es 0 l k).1 h;simp at a
theorem stepB_sm (hf:Few k0 es)(h:k0<=16) (x:Nat) (l:Int):Sm (zbK es x l):=
 eI (zhv hf x l) (by rw [show (4294967296:Nat)=2 ^ 32 from rfl];exact eL oM oM)
theorem impl_step {bm set:Nat}(hm:MovAt w bm es)(hT:Tab w)(hset:set<2 ^ 16)(hl:l<6)(hf:Few k0 es)(hk0:k0<=16) :
  kQ kN 191 #[kV (gO bm),set,l] w fun e w'=>e=kP (.int kA (zbK es set l:Nat))/\Ext w w':=by
 have g:set<65536:=by simpa using hset
 have D:=za hf;clear hf
 go_enter Tryz.func191,Tryz.ntmps191
 go_wp2
 go_loopw [1,7] (fun s v wr=>∃ x:Nat,s=.int kA x/\x<65536/\∃ y:Nat,v=.int kA y/\Sm y/\Hid (zbK es set l=y|||zbK es x l)/\Ext w wr) (fun s _ _=>(intOf s).toNat)
 case atStart=>exact⟨set,rfl,g,0,rfl,tM,by simp [Hid],dB _⟩
 case round =>
  obtain⟨x,rfl,Y,y,rfl,L,r,c⟩:=hrel
  by_cases h0:x=0
  ·subst h0;go_wp2;go_ret;have F:=r.out;rw [stepB_zero,Nat.or_zero] at F;exact⟨zao (by rw [F]),c⟩
  ·have q:Sm x:=tM;obtain⟨j,I,J,k,m,d,B⟩:=lowest h0 q;have i:j<16:=by
    rcases Nat.lt_or_ge j 16 with h|h
    ·exact h
    ·have:=eL (n:=2) oM h;omega
   have X:=Nat.two_pow_pos j;have o:=za (stepB_low D.out k m l);have E:=hm j l i hl;have U:∀ W,Ext wr W->W.cell? ⟨bm,j*6+l,gP⟩=gO (.int kA (succ es j l:Nat)):=fun W hW=>(c.trans hW).aa E;have t:=za (fun W (hW:Ext wr W)=>hT.ext (c.trans hW));have M:=succ_sm D.out hk0 j l;have O:=za (zbn L M);have R:((x:Int) != 0)=kC:=by simp;omega
   have G:=za (zbC (a:=x) (b:=x - 1) q tM);have H:=za (show ((x:Int) - 1)=((x - 1:Nat):Int) by omega);have Z:IntKind.u64.wrap (x:Int)=x:=by rw [IntKind.wrap_u64];omega
   have C:=za (fun W (hW:Ext wr W)=>(show kQ kN 229 #[.int .u64 x] W fun e w'=>e=kP (.int kA j)/\W=w' by rw [<- I];exact tz x oM h0 W (t.out W hW)));have S:=dB wr;have T:x - 2 ^ j<x:=oM;have p:x&&&(x - 1)=x - 2 ^ j:=d;have f:=za p;have Q:(l:Int)<6:=oM;have u:(j:Int)<16:=oM;clear I k m d p h0 B E;generalize succ es j l=z at *;go_wp2_with fail
   go_region_held3 (fun W=>Ext wr W) (first|assumption|(refine Ext.drew ?_;assumption)|(refine Ext.trans ?_ aM;assumption)|(refine Ext.trans ?_ aM;refine Ext.drew ?_;assumption)) ((go_at_call 229;refine (C.out _ ?_).mono ?_;(first|assumption|(refine Ext.drew ?_;assumption));rintro e w' ⟨rfl,rfl⟩))
   go_wp2_with fail
   go_roundw
   case rel=>exact⟨x&&&(x - 1),by rw [H.out,G.out],by rw [f.out];omega,y|||z,by rw [O.out],L.or M,by unfold Hid;rw [r.out,o.out,f.out,Nat.or_assoc],c.trans aM⟩
   case measure =>
    have:=G.out;rw [<- H.out] at this;have V:=f.out;simp [intOf];omega
theorem zgQ (a:Nat):Rise (letters a 6):=by
 refine⟨fun l hl=>(zeg.1 hl).1,fun i j x y hx hy hij=>?_⟩;have b:(letters a 6).Pairwise (·<·):=List.Pairwise.filter _ kF;obtain⟨c,rfl⟩:=kT.1 hx;obtain⟨d,rfl⟩:=kT.1 hy;exact List.pairwise_iff_getElem.1 b i j c d hij
theorem Blk.ne {a b:Nat}{u:TypeId}{ds:Array kL}(h:Blk w a t cs)(h':Blk w b u ds)(ht:t≠u):a≠b:=by
 rintro rfl;unfold Blk at h h';rw [h] at h';injection h' with h'
 injection h' with _ h2
 exact ht h2
theorem zdq (h:Blk w g 3 #[.int kA (x:Nat)]):zar w (gO ⟨g,0,gP⟩) 1 [x]:=by
 refine⟨rfl,oM,fun _=>⟨g,0,_,rfl,h,fun j y hj=>?_⟩⟩;cases j with
 |zero =>
  obtain rfl:=kS hj;rw [h.cell];rfl
 |succ j=>simp at hj
theorem rising_pw :zhC es↔es.Pairwise (fun x y=>ltE x y=kC):=by
 rw [List.pairwise_iff_getElem];constructor
 ·intro h i j hi hj hij;exact h i j _ _ (dE hi) (dE hj) hij
 ·intro h a b x y hx hy hab;obtain⟨c,rfl⟩:=kT.1 hx;obtain⟨d,rfl⟩:=kT.1 hy;exact h a b c d hab
theorem zjg (a k:Nat):(letters a k).Pairwise (·<·):=List.Pairwise.filter _ kF
theorem asc_ext:∀ {l m:List Nat},l.Pairwise (·<·)->m.Pairwise (·<·)->(∀ x,x∈l↔x∈m)->l=m:=by
 intro l
 induction l with
 |nil =>
  intro m _ _ h;cases m with
  |nil=>rfl
  |cons y s=>exact absurd ((h y).2 sM) sM
 |cons x r ih =>
  intro m hl hm h;cases m with
  |nil=>exact absurd ((h x).1 sM) sM
  |cons y s =>
   rw [List.pairwise_cons] at hl hm;have e:x=y:=by
    have a:=(h x).1 sM;have b:=(h y).2 sM;rcases lB.1 a with a|a
    ·exact a
    ·rcases lB.1 b with b|b
     ·exact b.symm
     ·have:=hl.1 y b;have:=hm.1 x a;omega
   subst e;rw [ih hl.2 hm.2 fun z=>?_];have c:=h z;simp only [List.mem_cons] at c;constructor
   ·intro a;have:=hl.1 z a;rcases c.1 (Or.inr a) with b|b
    ·omega
    ·exact b
   ·intro a;have:=hm.1 z a;rcases c.2 (Or.inr a) with b|b
    ·omega
    ·exact b
def chE (es:List Edg) (q l:Nat):List Nat:=(es.filter fun e=>e.fr==(q:Int)&&e.le==(l:Int)).map fun e=>e.ta.toNat
theorem chE_cho (hf:Few p es)(hp:p<=16)(hr:zhC es) (q l:Nat):chE es q l=letters (succ es q l) 32:=by
 refine asc_ext ?_ (zjg _ _) fun x=>?_
 ·have c:=rising_pw.1 hr;rw [chE,List.pairwise_map,List.pairwise_filter];refine c.imp_of_mem fun {a b} ha hb hab d h3=>?_;simp only [dI,beq_iff_eq] at d h3;have:=ltE_iff.1 hab;have:=hf a ha;have:=hf b hb;omega
 ·rw [zD,zdA,chE,List.mem_map];simp only [List.mem_filter,dI,beq_iff_eq];constructor
  ·rintro ⟨e,⟨c,d⟩,rfl⟩;have:=hf e c;exact⟨oM,e,c,d,rfl⟩
  ·rintro ⟨_,e,c,d,rfl⟩;exact⟨e,⟨c,d⟩,rfl⟩
theorem chE_take {x:Edg}(h:es[k]?=gO x) (q l:Nat):chE (es.take (k+1)) q l=chE (es.take k) q l++if x.fr=(q:Int)/\x.le=(l:Int) then [x.ta.toNat] else []:=by
 rw [eB,h];unfold chE;rw [eS,List.filter_append,eU]
 congr 1
 by_cases hc:x.fr=(q:Int)/\x.le=(l:Int)
 ·rw [if_pos hc];simp [hc]
 ·rw [if_neg hc];have:(x.fr==(q:Int)&&x.le==(l:Int))=kK:=by
   rw [fH];intro h;simp only [dI,beq_iff_eq] at h;exact hc h
  simp [this]
theorem chE_len (hf:Few p es)(hp:p<=16)(hr:zhC es) (q l k:Nat):(chE (es.take k) q l).length<=16:=by
 have a:(chE (es.take k) q l).Sublist (chE es q l):=((List.take_sublist k es).filter _).map _;refine dW a.length_le (dW (zdS (p:=p) ?_ ?_) hp)
 ·rw [chE_cho hf hp hr];exact zgd _ _
 ·intro x hx;obtain⟨e,b,rfl⟩:=kW.1 hx;have:=hf e (List.mem_filter.1 b).1;omega
theorem ret_one {y:Nat}(hx:Ext w W)(hb:Blk W g 3 #[.int kA (y:Nat)])(hg:w.heap.size<=g):zci w [y] (kP (fQ (gO g) 1 1)) W:=
 ⟨gO ⟨g,0,gP⟩,1,rfl,⟨rfl,.inr ⟨g,1,_,rfl,hg,hb,by simp [zag,maxLen]⟩⟩,hx⟩
theorem ziI {L:Int}{us:List Aut}{m:Mem}(h:zfL w PA pn AA an ss us)(hok:zed ss us)(hm:(zbt ss us)[i]?=gO m)(hq:q<m.1)(hl:l<6) :
  kQ kN 298 #[.agg #[fQ PA pn pc,fQ AA an ac,sv,L,K,G],i,q,l] w (zci w (m.2 q l)):=by
 have d:Ext w (w.alloc (.cells #[fQ PA pn pc,fQ AA an ac,sv,L,K,G] 185)):=(dB w).alloc _;have H:=eO w 185 #[fQ PA pn pc,fQ AA an ac,sv,L,K,G];have HN:=za (fun W (hW:Ext w W)=>h.ext hW);have r:Hid (pn=ss.length):=by obtain⟨_,_,h1⟩:=h.sys;exact h1.1
 have Q:Hid (an=us.length):=by obtain⟨_,_,h1⟩:=h.aut;exact h1.1
 have a3:pn<=3:=by rw [r.out];exact hok.few
 have aY:an<=2:=by rw [Q.out];exact hok.few'
 by_cases hip:i<pn
 ·have V:ss[i]?=gO (ss[i]'(by rw [<- r.out];exact hip)):=dE _;generalize ss[i]'(by rw [<- r.out];exact hip)=s at V;obtain rfl:m=zec s:=by
   rw [zbt,dJ (by simp;have:=r.out;omega),eC,V] at hm;exact (kS hm).symm
  have hv:=hok.sys s (dC V);obtain⟨F,aA,_,C⟩:=zeR.1 hv;obtain⟨p,hp,a2,T,hf⟩:=zcq hv;obtain⟨J,E⟩:∃ J:Nat,Hid (s.al=J):=⟨s.al.toNat,by unfold Hid;omega⟩;have X:Sm J:=by have:=E.out;unfold Sm;omega
  have U:=za (show (zec s).2 q l=if J.testBit l then chE s.edges q l else [q] by
   rw [chE_cho hf T C];simp only [zec,cho];rw [E.out,Int.toNat_natCast])
  have Hs:=za V;have ai:=za (chE_len hf T C q l);have Hf:=za hf;clear V hv F aA C hf hm hok h hq;rw [U.out];cases hb:J.testBit l
  ·have Hb:=za hb;clear hb
   go_enter Tryz.func298,Tryz.ntmps298
   go_upto_region 1 with fail
   generalize w.alloc _=y at *;have c0:=H.cell;obtain⟨lo,hi,D⟩:=(HN.out y d).sys;obtain⟨b,o,s',B,n,c',rfl,_,_,M,O,e1,e2,u⟩:=D.sys hip;obtain rfl:s=s':=by have:=M.out;rw [Hs.out] at this;exact kS this
   rw [E.out] at O;clear e1 D u;go_wp2_with (go_at_call 143;with_reducible refine (zaq J l X _ oM).mono ?_;rw [Hb.out];rintro e w' ⟨rfl,rfl⟩)
   go_ret;exact ret_one (d.alloc _) (eO _ _ _) d.size
  ·have Hb:=za hb;clear hb;simp only [if_true]
   go_enter Tryz.func298,Tryz.ntmps298
   go_upto_region 1 with fail
   generalize w.alloc _=y at *;have c0:=H.cell;obtain⟨lo,hi,D⟩:=(HN.out y d).sys;obtain⟨b,o,s',B,n,c',rfl,_,_,M,O,e1,e2,u⟩:=D.sys hip;obtain rfl:s=s':=by have:=M.out;rw [Hs.out] at this;exact kS this
   rw [E.out] at O;have ao:=za u.1;have HR:=za (fun W (hW:Ext y W)=>u.2.ext hW);have a1:=u.2.len;clear e1 D u;go_upto_region 6 with (go_at_call 143;with_reducible refine (zaq J l X _ oM).mono ?_;rw [Hb.out];rintro e w' ⟨rfl,rfl⟩)
   have Y:w.heap.size<=y.heap.size:=d.size;have ad:=World.ownsRow_lit (base:=y.heap.size) (e:=3) (size:=1) y #[] 0 (dD _) lM rfl;generalize U0:y.alloc _=w2 at *;have I:=Ext.al_ U0;have aq:=(H.ext I).cell;have ar:=I.aa e2;clear U0;clear c0 O e2;go_wp2_with fail
   go_loopw [9,11] (fun v j wr=>∃ k:Nat,k<=n/\j=.int kA k/\wr.ownsRow y.heap.size 3 1 v (chE (s.edges.take k) q l).length (zag (chE (s.edges.take k) q l))/\Ext y wr) (fun _ j _=>n - (intOf j).toNat)
   case atStart=>exact⟨0,dH _,rfl,ad,I⟩
   case round =>
    clear ad aq ar I;obtain⟨k,hk,rfl,z,Z⟩:=hrel
    by_cases hlt:k<n
    ·obtain⟨b',o',x,rfl,_,_,ab,d0,d1,d2⟩:=(HR.out wr Z).aw hlt;obtain⟨⟨f0,f1⟩,⟨l0,l1⟩,⟨t0,t1⟩⟩:=Hf.out x (dC ab.out);have g:=za (chE_take ab.out q l);have aO:=ai.out k
     by_cases hfr:x.fr=(q:Int)
     ·by_cases hle:x.le=(l:Int)
      ·obtain⟨t,ht⟩:∃ t:Nat,x.ta=t:=⟨x.ta.toNat,oM⟩;rw [hfr] at d0;rw [hle] at d1;rw [ht] at d2;have f:=za (show chE (s.edges.take (k+1)) q l=chE (s.edges.take k) q l++[t] by rw [g.out,if_pos ⟨hfr,hle⟩,ht];rfl);clear hfr hle f0 f1 l0 l1 t0 t1 ht g;generalize chE (s.edges.take k) q l=cs at *;go_wp2_with (at_builtin;refine zV y wr rfl _ _ _ rfl 3 _ 1 8 Tryz.underlying110 zT rfl dM u9 _ _ _ _ rfl rfl Z z rfl (zaJ _) lM oM ?_;intro v' w5 hext5 zkD hg5 hat5)
       go_roundw
       case rel=>exact⟨k+1,oM,gM,by rw [f.out,eA,zeD];exact zkD,hext5⟩
       case measure=>exact uM
      ·have az:(x.le==(l:Int))=kK:=by simp;omega
       have f:=za (show chE (s.edges.take (k+1)) q l=chE (s.edges.take k) q l by rw [g.out,if_neg (fun h=>hle h.2),iA]);rw [hfr] at d0;clear hfr hle f0 f1 l0 l1 t0 t1 g;go_wp2_with fail
       go_roundw
       case rel=>exact⟨k+1,oM,gM,by rw [f.out];exact z,Z⟩
       case measure=>exact uM
     ·have az:(x.fr==(q:Int))=kK:=by simp;omega
      have f:=za (show chE (s.edges.take (k+1)) q l=chE (s.edges.take k) q l by rw [g.out,if_neg (fun h=>hfr h.1),iA]);clear hfr f0 f1 l0 l1 t0 t1 g;go_wp2_with fail
      go_roundw
      case rel=>exact⟨k+1,oM,gM,by rw [f.out];exact z,Z⟩
      case measure=>exact uM
    ·obtain rfl:n=k:=oM;have ae:=za (show wr.ownsRow w.heap.size 3 1 u9 (chE s.edges q l).length (zag (chE s.edges q l)) by
      rw [dK (oH ao.out)] at z;exact zn z Y)
     obtain⟨A5,c5,rfl⟩:=zi ae.out;have aE:=d.trans Z;clear z;go_wp2;go_ret;exact⟨_,_,rfl,ae.out,aE⟩
 ·obtain⟨j,hj⟩:∃ j,i=pn+j:=⟨i - pn,oM⟩;subst hj;have S:us[j]?.map zbE=gO m:=by
   rw [zbt,eD (by simp;have:=r.out;omega),eC] at hm;rw [<- hm]
   congr 2
   simp;have:=r.out;omega
  obtain⟨a,E,rfl⟩:=Option.map_eq_some_iff.1 S;have ay:j<an:=by rw [Q.out];exact (kT.1 E).1
  have aD:=za (hok.aut a (dC E));have Ha:=za E;have Hq:=za (show q<a.next.length from hq);clear hm S E hok h hq;change kQ _ _ _ _ (zci w [aGo a q l])
  go_enter Tryz.func298,Tryz.ntmps298
  go_upto_region 1 with fail
  generalize w.alloc _=y at *;have c0:=H.cell;obtain⟨lo,hi,F⟩:=(HN.out y d).aut;obtain⟨b,o,a',B,m,c,B',m',c',rfl,ax,O,e1,e2,R⟩:=F.aut ay;obtain rfl:a=a':=by have:=ax.out;rw [Ha.out] at this;exact kS this
  have aZ:¬ ((pn+j:Nat):Int)<(pn:Int):=oM;have a4:((pn+j:Nat):Int) - (pn:Int)=(j:Int):=oM;have ak:=za R;clear F R;go_wp2_with (go_at_call 225;with_reducible refine (zdZ ak.out aD.out Hq.out hl).mono (mQ fun w5 aa=>?_))
  go_ret;exact ret_one ((d.trans aa).alloc _) (eO _ _ _) ((d.trans aa).size)
theorem zhh (n:Nat)(h:n<9223372036854775808):IntKind.i64.wrap (n:Int)=(n:Int):=by rw [IntKind.wrap_i64];omega
theorem chs_fst (ms:List Mem) (x l:Nat):(chs ms x l).map Prod.fst=ms.map Prod.fst:=by
 induction ms with
 |nil=>rfl
 |cons m r ih=>simp [chs,ih]
theorem zed.choices {us:List Aut}(h:zed ss us){m:Mem}(hm:m∈zbt ss us) (hq:q<m.1)(hl:l<6):(∀ x∈m.2 q l,x<m.1)/\(m.2 q l).length<=m.1:=by
 refine⟨(h.ok m hm).2 q l hq hl,?_⟩;rcases kY.1 hm with b|b
 ·obtain⟨s,d,rfl⟩:=kW.1 b;exact cho_len (zbx (h.sys s d)) hq
 ·obtain⟨a,c,rfl⟩:=kW.1 b;have:=(zl (h.aut a c)).2.1.1;simp only [zbE];simpa using this
theorem zed.fwd_ {us:List Aut}(h:zed ss us) (x:Nat) (hl:l<6) (k:Nat):(fwd ((chs (zbt ss us) x l).take k)).length<=1048576/\∀ y∈fwd ((chs (zbt ss us) x l).take k),y<1048576:=by
 have d:∀ c∈(chs (zbt ss us) x l).take k,(∀ y∈c.2,y<c.1)/\c.2.length<=c.1:=by
  intro c d;obtain⟨i,f⟩:=eN (gJ d);have a:=(kT.1 f).1;rw [zgB] at a;have j:(zbt ss us)[i]?=gO (zbt ss us)[i]:=dE a;rw [chs_get j] at f;obtain rfl:=kS f;have b:=fY a;exact h.choices b (iM _ (h.ok _ b).1) hl
 have g:=(h.total (((chs (zbt ss us) x l).take k).map Prod.fst) (by rw [<- zge,<- chs_fst _ x l];exact (List.take_sublist _ _).map _)).2;refine⟨dW (fwd_len fun c hc'=>(d c hc').2) g,fun y hy=>eI (fwd_lt (fun c hc'=>(d c hc').1) y hy) g⟩
theorem spec_l4Nexts {TA:Option Addr}{tc:Nat}{L:Int}{us:List Aut}(h:zfL w PA pn AA an ss us)(hok:zed ss us)(hS:Lst zbA w lo hi SA (szs ss us))(hT:Lst zbA w lo' hi' TA (dec (szs ss us) x))(hn:(szs ss us).length=n)(hl:l<6) :
  kQ kN 275 #[.agg #[fQ PA pn pc,fQ AA an ac,sv,L,K,G],fQ SA n sc,fQ TA n tc,l] w (zci w (pnx (zbt ss us) x l)):=by
 obtain⟨E,U0⟩:∃ x,Hid (w.alloc (.cells #[fQ PA pn pc,fQ AA an ac,sv,L,K,G] 185)=x):=⟨_,za rfl⟩;have ak:Ext w E:=((dB w).alloc _).trans (Ext.eq_ U0.out);have aW:=Ext.bl_ U0.out;have HN:=za (fun W (hW:Ext w W)=>h.ext hW);have HS:=za (fun W (hW:Ext w W)=>hS.ext zbA.ok hW);have HT:=za (fun W (hW:Ext w W)=>hT.ext zbA.ok hW);have aU:=za hok;have bw:n<=5:=by rw [<- hn];exact hok.len
 have U:(chs (zbt ss us) x l).length=n:=by rw [zgB,<- hn,<- zge,eF]
 have aS:=za (hok.fwd_ x hl);have ar:=za (show ∀ k,k<n->∃ m,(zbt ss us)[k]?=gO m/\(szs ss us)[k]?=gO m.1/\(dec (szs ss us) x)[k]?=gO (x / zH ((zbt ss us).drop (k+1)) % m.1)/\(chs (zbt ss us) x l)[k]?=gO (m.1,m.2 (x / zH ((zbt ss us).drop (k+1)) % m.1) l)/\1<=m.1/\m.1<=16 from fun k hk=>by
  have ab:k<(zbt ss us).length:=by rw [<- zgB _ x l,U];exact hk
  have F:(zbt ss us)[k]?=gO (zbt ss us)[k]:=dE ab;have hz:(szs ss us)[k]?=gO ((zbt ss us)[k]).1:=by rw [<- zge,eC,F];rfl
  refine⟨_,F,hz,?_,chs_get F,hok.le16 _ (dC hz)⟩;rw [zjF hz,<- zge,<- List.map_drop];rfl)
 have aq:=za (fwd_pnx (zbt ss us) x l);have aR:=za (fun (m:Mem) (F:m∈zbt ss us) (q l:Nat) (hq:q<m.1) (hl:l<6)=>hok.choices F hq hl);clear h hS hT hok;generalize hK:chs (zbt ss us) x l=KK at *;have au:=za U;have bj:=za hn;clear hK U hn
 go_enter Tryz.func275,Tryz.ntmps275
 go_upto_region 1 with fail
 rw [U0.out] at *;go_upto_region 2 with fail
 have aK:=(dB E).alloc (.cells #[(0:Int)] 3);have aH:w.heap.size<=E.heap.size:=ak.size;have aO:=World.ownsRow_lit (base:=E.heap.size) (e:=3) (size:=1) E #[(0:Int)] 1 (dD _) lM rfl;generalize hg1:(gO ⟨E.heap.size,0,gP⟩:Option Addr)=A1 at *;clear hg1;generalize E.alloc _=w2 at *;go_wp2_with fail
 go_loopw [9,10,11,12,13,14] (fun v i _ _ _ _ wr=>∃ (k:Nat) (c:List Nat),i=.int kA k/\k<=n/\Hid (c=fwd (KK.take k))/\wr.ownsRow E.heap.size 3 1 v c.length (zag c)/\Ext E wr) (fun _ i _ _ _ _ _=>n - (intOf i).toNat)
 case atStart=>exact⟨0,[0],rfl,dH _,rfl,by simpa [zag] using aO,aK⟩
 case round =>
  clear aO aK;obtain⟨k,c,rfl,hk,B,J,hx⟩:=hrel;obtain⟨A0,c0,rfl⟩:=zi J
  by_cases hlt:k<n
  ·obtain⟨m,F,hz,hd,hc,aB,S⟩:=ar.out k hlt;have Hm:=za F;have Hc:=za hc;obtain⟨aZ,af⟩:=aS.out k;rw [<- B.out] at aZ af;have aT:=za af;obtain⟨q,hq⟩:∃ q:Nat,Hid (x / zH ((zbt ss us).drop (k+1)) % m.1=q):=⟨_,rfl⟩;have ah:q<m.1:=by rw [<- hq.out];exact iM _ aB
   obtain⟨O,Q⟩:=aR.out m (dC F) q l ah hl;have u:=za O;rw [hq.out] at hd;have T:=za (show KK[k]?=gO (m.1,m.2 q l) by rw [Hc.out,hq.out]);obtain⟨s,aG⟩:∃ s:Nat,Hid (m.1=s):=⟨_,rfl⟩;obtain⟨p,V⟩:∃ p:List Nat,Hid (m.2 q l=p):=⟨_,rfl⟩;have ab:k<(dec (szs ss us) x).length:=(kT.1 hd).1;have al:=ak.trans hx;obtain⟨bt,ot,q',rfl,_,_,H,az⟩:=(HT.out wr al).num ab;obtain rfl:q=q':=by have:=H.out;rw [hd] at this;exact kS this
   obtain⟨bz,oz,z',rfl,_,_,aN,Y⟩:=(HS.out wr al).num (kT.1 hz).1;obtain rfl:m.1=z':=by have:=aN.out;rw [hz] at this;exact kS this
   have av:=za ah;rw [aG.out] at Y aB S Q;rw [V.out] at Q u;rw [aG.out] at u T;rw [V.out] at T;have aj:=za (show fwd (KK.take (k+1))=c.flatMap fun o=>p.map fun y=>o*s+y by
    rw [eB,T.out,eS,zjJ,<- B.out])
   have CT:∀ W,Ext wr W->W.cell? ⟨bt,ot+k,gP⟩=gO (.int kA (q:Nat)):=fun W hW=>hW.aa az;have CB:∀ W,Ext wr W->∀ j,W.cell? ⟨w.heap.size,j,gP⟩=#[fQ PA pn pc,fQ AA an ac,sv,.int kA L,.int kA K,.int kA G][j]?:=fun W hW=>((aW.ext hx).ext hW).cell;have CC:=za (show ∀ W,Ext wr W->kQ kN 298 #[.agg #[fQ PA pn pc,fQ AA an ac,sv,L,K,G],k,q,l] W (zci W p) from fun W hW=>by
    have:=ziI (pc:=pc) (ac:=ac) (sv:=sv) (L:=L) (K:=K) (G:=G) (HN.out W (al.trans hW)) aU.out Hm.out av.out hl;rw [V.out] at this;exact this)
   have bu:(k:Int)<(n:Int):=oM;have ai:=dB wr;clear az aN H hz hd hc F ah O af av;go_upto_region 5 with fail
   refine uR (fun X=>Ext wr X) [7] (zx.of [0,1,2,3,4,5,6,7,8]) ?_;refine uQ ?_;refine zb fun K hK=>?_;go_simp;refine (CC.out _ ai.drew).mono ?_;rintro e r ⟨A4,c4,rfl,C,aL⟩;refine hK.out _ _ ?_;refine pT ?_;refine uQ ?_;refine zg ?_;have I:Ext wr r:=ai.drew.trans aL;have aw:=Lst.ai C;have ay:=(Lst.ai J).ext zbA.ok I;have R:=I.aa Y;clear CT CB CC ai C aL Y;go_upto_region 7 with fail
   have d:=(dB r).alloc (.cells #[] 3);have f:=World.ownsRow_lit (base:=r.heap.size) (e:=3) (size:=1) r #[] 0 (dD _) lM rfl;generalize hg1:(gO ⟨r.heap.size,0,gP⟩:Option Addr)=A5 at *;clear hg1;generalize r.alloc _=w5 at *;have M:=za (fun W (hW:Ext r W)=>ay.ext zbA.ok hW);have ax:=za (fun W (hW:Ext r W)=>aw.ext zbA.ok hW);have aV:=za (fun W (hW:Ext r W)=>hW.aa R);clear ay aw R;go_wp2_with fail
   go_loopw [12,13,14] (fun v i _ wr=>∃ (a:Nat) (t:List Nat),i=.int kA a/\a<=c.length/\Hid (t=(c.take a).flatMap fun o=>p.map fun y=>o*s+y)/\wr.ownsRow r.heap.size 3 1 v t.length (zag t)/\Ext r wr) (fun _ i _ _=>c.length - (intOf i).toNat)
   case atStart=>exact⟨0,[],rfl,dH _,by simp [Hid],by simpa [zag] using f,d⟩
   case round =>
    clear f d;obtain⟨a,t,rfl,ha,ae,f,d⟩:=hrel
    by_cases hla:a<c.length
    ·obtain⟨bo,oo,o,rfl,_,_,ho,aX⟩:=(M.out _ d).num hla;have ba:=aT.out o (dC ho.out);have bx:t.length<=16777216:=by
      rw [ae.out];refine dW (flat_len (k:=p.length) fun z _=>sM) ?_;rw [e9];have:=fK (show min a c.length<=1048576 by omega) (show p.length<=16 by omega);omega
     have a0:=za (show ((c.take (a+1)).flatMap fun o=>p.map fun y=>o*s+y)=t++p.map fun y=>o*s+y by
      rw [eB,ho.out,ae.out];simp)
     clear aX;go_wp2_with fail
     go_loopw [12,14] (fun v i wr=>∃ (b:Nat) (D:List Nat),i=.int kA b/\b<=p.length/\Hid (D=t++(p.take b).map fun y=>o*s+y)/\wr.ownsRow r.heap.size 3 1 v D.length (zag D)/\Ext r wr) (fun _ i _=>p.length - (intOf i).toNat)
     case atStart=>exact⟨0,t,rfl,dH _,by simp [Hid],f,d⟩
     case round =>
      clear f d;obtain⟨b,D,rfl,hb,ad,f,d⟩:=hrel
      by_cases hlb:b<p.length
      ·obtain⟨bc,oc,y,rfl,_,_,hy,aA⟩:=(ax.out _ d).num hlb;have be:=u.out y (dC hy.out);have a9:D.length<=16777216+16:=by rw [ad.out,eA,eF,e9];omega
       have aC:o*s<=1048576*16:=fK oM S;obtain⟨os,ag⟩:∃ z:Nat,Hid (o*s=z):=⟨_,rfl⟩;have bb:(o:Int)*(s:Int)=(os:Int):=by rw [<- ag.out];exact (Int.natCast_mul o s).symm
       rw [ag.out] at aC;have aF:=za (show (t++(p.take (b+1)).map fun y=>o*s+y)=D++[os+y] by
        rw [eB,hy.out,ad.out,<- ag.out];simp)
       have C1:∀ W,Ext wr W->W.cell? ⟨bo,oo+a,gP⟩=gO (.int kA (o:Nat)):=fun W hW=>(M.out W (d.trans hW)).num2 ho.out;have C2:=fun W (hW:Ext wr W)=>aV.out W (d.trans hW);have C3:∀ W,Ext wr W->W.cell? ⟨bc,oc+b,gP⟩=gO (.int kA (y:Nat)):=fun W hW=>hW.aa aA;have br:(a:Int)<(c.length:Int):=oM;have bs:(b:Int)<(p.length:Int):=oM;have aI:=dB wr;clear aA;go_upto_region 13 with fail
       refine uR (fun X=>Ext wr X) [15,16] (zx.of [0,1,2,3,4,5,6,7,8,9,10,11,12,13,14,15,16,17]) ?_;refine uQ ?_;refine ze fun K hK=>?_;go_simp;refine hK.out _ _ (aI.drew.alloc _) ?_;refine pT ?_;refine zb fun K hK=>?_;refine zaB r wr.drew _ _ _ rfl 3 _ 1 8 Tryz.underlying110 zT rfl dM u12 D.length (zag D) _ _ rfl rfl (d.drew).size f rfl (zaJ _) lM oM ?_;intro g5 cap5 w6 g hg6 hat6 hlt6;have a1:IntKind.i64.wrap (IntKind.i64.wrap (os:Int)+(y:Int))=((os+y:Nat):Int):=by rw [zhh os oM,<- Int.natCast_add,zhh (os+y) oM]
       rw [a1] at g;refine hK.out _ _ ?_;refine pT ?_;refine uQ ?_;refine zg ?_;have am:Ext r w6:=d.drew.grown hg6 (fun q' H=>(f.lt q' H).1);go_wp2_with fail
       go_roundw
       case rel=>exact⟨b+1,D++[os+y],gM,oM,by unfold Hid;rw [aF.out],by rw [eA,zeD];exact g,am⟩
       case measure=>exact uM
      ·obtain rfl:b=p.length:=oM;have Z:=za (show D=t++p.map fun y=>o*s+y by rw [ad.out,eZ]);go_wp2_with fail
       go_roundw
       case rel=>exact⟨a+1,D,gM,oM,by unfold Hid;rw [a0.out,Z.out],f,d⟩
       case measure=>exact uM
    ·obtain rfl:a=c.length:=oM;have aa:=za (show t=fwd (KK.take (k+1)) by rw [aj.out,ae.out,eZ]);have am:=hx.trans (I.trans d);have g:=zn f (show E.heap.size<=r.heap.size from (hx.trans I).size);go_wp2_with fail
     go_roundw
     case rel=>exact⟨k+1,t,gM,oM,aa,g,am⟩
     case measure=>exact uM
  ·obtain rfl:n=k:=oM;have a3:=za (show c=pnx (zbt ss us) x l by rw [B.out,dK (oH au.out)];exact aq.out);have aE:=za (show zci w (pnx (zbt ss us) x l) (kP (fQ A0 c.length c0)) wr from by
    rw [<- a3.out];exact⟨A0,c0,rfl,zn J aH,ak.trans hx⟩)
   clear J;go_wp2;go_ret;exact aE.out
theorem info_intss:(kN.info? 24).map (fun i=>(i.zero,i.size,i.bytes))=gO (gO (fQ gP 0 0),1,24):=kM
def mvs (d:Nat->Nat->List Nat) (L:List Nat) (N:Nat):List (List (List Nat)):=(List.range N).map fun x=>L.map fun l=>d x l
theorem zdR (d:Nat->Nat->List Nat) (L:List Nat) (N:Nat):(mvs d L N).length=N:=by simp [mvs]
abbrev P3:Lay (List (List Nat)):=LstP (LstP zbA)
theorem P3.ok:Lay.Ok P3:=LstP.ok (LstP.ok zbA.ok)
def RetMv (w:kJ) (mv:List (List (List Nat))) (e:Ending) (w':kJ):Prop:=∃ A c,e=kP (fQ A mv.length c)/\Lst P3 w' w.heap.size w'.heap.size A mv/\Ext w w'
theorem spec_l4Moves {L:Nat}{us:List Aut}(h:zfL w PA pn AA an ss us)(hok:zed ss us)(hS:Lst zbA w lo hi SA (szs ss us))(hn:(szs ss us).length=n)(hL:L<64)(hN:N<=1048576) :
  kQ kN 216 #[.agg #[fQ PA pn pc,fQ AA an ac,sv,L,K,G],fQ SA n sc,N] w (RetMv w (mvs (pnx (zbt ss us)) (letters L 6) N)):=by
 have HN:=za (fun W (hW:Ext w W)=>h.ext hW);have HS:=za (fun W (hW:Ext w W)=>hS.ext zbA.ok hW);have aB:=za hok;have Hn:=za hn;have a1:n<=5:=by rw [<- hn];exact hok.len
 have Hz:=za hok.le16;have aD:Sm L:=tM;have a0:=zB L 6;have az:=za (show ∀ l∈letters L 6,l<6 from fun l hl=>(zD.1 hl).1);clear h hok hS hn
 go_enter Tryz.func216,Tryz.ntmps216
 go_upto_region 1 with fail
 generalize U0:w.alloc _=B at *;obtain⟨U,aa⟩:=Ext.x1_ U0;clear U0;go_upto_region 2 with fail
 have V:=(dB B).alloc (.cells #[] 24);have ag:w.heap.size<=B.heap.size:=U.size;have al:=World.ownsRow_lit (base:=B.heap.size) (e:=24) (size:=1) B #[] 0 (dD _) lM rfl;have J:∀ b,(fQ (gO B.heap.size) 0 0).ownBlock=gO b->b<(B.alloc (.cells #[] 24)).heap.size:=fun b hb=>by
  simp [Value.ownBlock] at hb
  simp;omega
 generalize hg1:(gO ⟨B.heap.size,0,gP⟩:Option Addr)=A1 at *;clear hg1;generalize B.alloc _=w2 at *;have c2:=(aa.ext V).cell;go_upto_region 3 with (go_at_call 134;refine (zai L aD _).mono ?_;rintro e Y ⟨AL,cL,rfl,E,I⟩)
 have ak:=V.trans I;have d:=Lst.ai E;have aH:=I.size;have am:=zh al I;clear al E V I c2;generalize hlq:letters L 6=f at *;have aU:=za hlq;clear hlq;go_wp2_with fail
 go_loopw [7,9,10,11,12] (fun v i _ _ _ wr=>∃ k:Nat,i=.int kA k/\k<=N/\Grl P3 wr B.heap.size 24 v (mvs (pnx (zbt ss us)) f k)/\Ext B wr/\Lst zbA wr w2.heap.size Y.heap.size AL f/\(∀ b,v.ownBlock=gO b->b<w2.heap.size\/Y.heap.size<=b)/\Y.heap.size<=wr.heap.size) (fun _ i _ _ _ _=>N - (intOf i).toNat)
 case atStart=>exact⟨0,rfl,dH _,⟨[],am,fun i r x hr=>by simp at hr⟩,ak,d,fun b hb=>Or.inl (J b hb),dD _⟩
 case round =>
  clear am d J;obtain⟨k,rfl,hk,C,hx,d,R,a2⟩:=hrel;have o:=zdR (pnx (zbt ss us)) f k;obtain⟨A0,c0,rfl⟩:=C.form;rw [o];rw [o] at R;have Z:=za R;clear R
  by_cases hlt:k<N
  ·have ai:=U.trans hx;have aC:=za (show mvs (pnx (zbt ss us)) f (k+1)=mvs (pnx (zbt ss us)) f k++[f.map fun l=>pnx (zbt ss us) k l] by simp [mvs,List.range_succ]);rw [o] at C;go_upto_region 7 with (go_at_call 218;refine (zgp (HS.out _ ai) Hn.out oM Hz.out oM).mono ?_;rintro e z ⟨A4,c4,rfl,p,y⟩)
   have O:(dec (szs ss us) k).length=n:=by rw [zdN];exact Hn.out
   rw [O] at p;rw [O];have HT:=za (fun W (hW:Ext z W)=>(Lst.ai (xs:=dec (szs ss us) k) (c:=c4) (A:=A4) (by rw [O];exact p)).ext zbA.ok hW);clear p;go_upto_region 8 with fail
   have a:=(dB z).alloc (.cells #[] 110);have ao:=World.ownsRow_lit (base:=z.heap.size) (e:=110) (size:=1) z #[] 0 (dD _) lM rfl;generalize hg1:(gO ⟨z.heap.size,0,gP⟩:Option Addr)=A5 at *;clear hg1;generalize z.alloc _=w5 at *;have ah:=ai.trans y;have ay:=za (fun W (hW:Ext z W)=>((aa.ext (hx.trans y)).ext hW).cell);have HL:=za (fun W (hW:Ext z W)=>d.ext zbA.ok (y.trans hW));go_wp2_with fail
   go_loopw [11,12] (fun v i wr=>∃ j:Nat,i=.int kA j/\j<=f.length/\Grl (LstP zbA) wr z.heap.size 110 v ((f.take j).map fun l=>pnx (zbt ss us) k l)/\Ext z wr) (fun _ i _=>f.length - (intOf i).toNat)
   case atStart=>exact⟨0,rfl,dH _,⟨[],ao,fun i r x hr=>by simp at hr⟩,a⟩
   case round =>
    clear ao a;obtain⟨j,rfl,hj,F,a⟩:=hrel;obtain⟨A6,c6,rfl⟩:=F.form;have t:((f.take j).map fun l=>pnx (zbt ss us) k l).length=j:=by simp;omega
    rw [t];rw [t] at F
    by_cases hlj:j<f.length
    ·obtain⟨bl,ol,l,rfl,_,_,hl,ab⟩:=(HL.out _ a).num hlj;have aE:=az.out l (dC hl.out);have aG:=za (show (f.take (j+1)).map (fun l=>pnx (zbt ss us) k l)=(f.take j).map (fun l=>pnx (zbt ss us) k l)++[pnx (zbt ss us) k l] by rw [eB,hl.out];simp);have CL:∀ W,Ext wr W->W.cell? ⟨bl,ol+j,gP⟩=gO (.int kA (l:Nat)):=fun W hW=>hW.aa ab;have CB:=fun W (hW:Ext wr W)=>ay.out W (a.trans hW);have CC:=za (show ∀ W,Ext wr W->kQ kN 275 #[.agg #[fQ PA pn pc,fQ AA an ac,sv,L,K,G],fQ SA n sc,fQ A4 n c4,l] W (zci W (pnx (zbt ss us) k l)) from fun W hW=>spec_l4Nexts (HN.out W ((ah.trans a).trans hW)) aB.out (HS.out W ((ah.trans a).trans hW)) (HT.out W (a.trans hW)) Hn.out aE);have aZ:(j:Int)<(f.length:Int):=oM;have M:=dB wr;obtain⟨H,m,T⟩:=F;rw [t] at m;clear ab;go_upto_region 11 with fail
     refine uR (fun X=>Ext wr X) [8,9,10] (zx.of [0,1,2,3,4,5,6,7,8,9,10,11]) ?_;refine uQ ?_;refine zb fun K hK=>?_;go_simp;refine (CC.out _ M.drew).mono ?_;rintro e w7 ⟨A7,c7,rfl,S,aI⟩;have s:=M.drew.trans aI;refine hK.out _ _ ?_;refine pT ?_;refine zb fun K hK=>?_;go_simp;refine hK.out _ _ ?_;refine pT ?_;refine zb fun K hK=>?_;refine zaB z w7 _ _ _ rfl 110 _ 1 24 Tryz.underlying24 zbH rfl dM (fQ A6 j c6) j H _ _ rfl rfl (a.trans s).size (zh m s) rfl (zaK _ _ _) lM oM ?_;intro g8 cap8 w8 hown8 hg8 hat8 hlt8;refine hK.out _ _ ?_;refine pT ?_;refine uQ ?_;refine zg ?_;have D:Grl (LstP zbA) w8 z.heap.size 110 (fQ (gO g8) (j+1) cap8) ((f.take j).map (fun l=>pnx (zbt ss us) k l)++[pnx (zbt ss us) k l]):=by
      have:=Grl.push2 (LstP.ok zbA.ok) (v:=fQ A6 j c6) (xs:=(f.take j).map fun l=>pnx (zbt ss us) k l) (g:=g8) (cap:=cap8) T (by rw [t];exact m) s ⟨A7,c7,rfl,Lst.ai S⟩ (dD wr.heap.size) a.size (dD _) (by rw [t];exact hown8) hg8 hat8;rwa [t] at this
     have aJ:Ext z w8:=(a.trans s).grown hg8 (fun q' hq'=>(m.lt q' hq').1);go_wp2_with fail
     go_roundw
     case rel=>exact⟨j+1,gM,oM,by rw [aG.out];exact D,aJ⟩
     case measure=>exact uM
    ·obtain rfl:j=f.length:=oM;rw [eZ] at F;have u:=y.trans a;have ad:=F.lst (LstP.ok zbA.ok);obtain⟨H,m,T⟩:=C;rw [o] at m;go_wp2_with (at_builtin;refine zV B wr rfl _ _ _ rfl 24 _ 1 24 Tryz.underlying237 info_intss rfl dM (fQ A0 k c0) k H _ _ rfl rfl (hx.trans u) (zh m u) rfl (zaK _ _ _) lM oM ?_;intro v8 w8 hext8 hown8 hg8 hat8)
     have D:Grl P3 w8 B.heap.size 24 v8 (mvs (pnx (zbt ss us)) f k++[f.map fun l=>pnx (zbt ss us) k l]):=
      Grl.push P3.ok (v:=fQ A0 k c0) T (by rw [o];exact m) u (⟨A6,c6,sM,ad⟩:P3 _ _ _ (fQ A6 f.length c6) _) y.size (hx.trans y).size (dD _) (by rw [o];exact hown8) hg8 hat8
     have Q:Lst zbA w8 w2.heap.size Y.heap.size AL f:=(d.ext zbA.ok u).frm zbA.ok (Frm.ae hg8) (fun q h1 h2 hq=>by have:=Z.out q hq;omega);have ae:∀ b,v8.ownBlock=gO b->b<w2.heap.size\/Y.heap.size<=b:=fun b hb=>by
      rcases hat8 with h1|h1
      ·rw [h1] at hb;exact Z.out b hb
      ·rw [h1] at hb;have:=kS hb;have:=u.size;omega
     have aF:Y.heap.size<=w8.heap.size:=by have:=u.size;have:=(Frm.ae hg8).size;omega
     go_roundw
     case rel=>exact⟨k+1,gM,oM,by rw [aC.out];exact D,hext8,Q,ae,aF⟩
     case measure=>exact uM
  ·obtain rfl:N=k:=oM;have af:=za (show RetMv w (mvs (pnx (zbt ss us)) f N) (kP (fQ A0 N c0)) wr from by
    refine⟨A0,c0,by rw [o],?_,U.trans hx⟩;have:=C.lst P3.ok;exact this.more P3.ok ag (dD _))
   clear C;go_wp2;go_ret;exact af.out
section
variable (d:Nat->Nat->List Nat) (L:List Nat) (goal:Nat->Bool)
def Dn:Nat->Nat->Prop
 |0,x=>goal x=kC
 |n+1,x=>∃ l∈L,∃ y∈d x l,Dn n y
def Mn (n x:Nat):Prop:=Dn d L goal n x/\∀ m,m<n->¬ Dn d L goal m x
end
section
variable {d:Nat->Nat->List Nat}{L:List Nat}{goal:Nat->Bool}{start:List Nat}{N:Nat}
theorem Dn.word:∀ {n x:Nat}{v:List Nat},Dn d L goal n x->zbv d start v x->∃ u:List Nat,u.length=n/\(∀ l∈u,l∈L)/\∃ y,zbv d start (v++u) y/\goal y=kC:=by
 intro n
 induction n with
 |zero=>intro x v h hg;exact⟨[],rfl,sM,x,by simpa using hg,h⟩
 |succ n ih =>
  intro x v h hg;obtain⟨l,i,y,j,h⟩:=h;obtain⟨u,b,c,z,f,g⟩:=ih h (.snoc hg j);refine⟨l :: u,by simp [b],?_,z,by simpa using f,g⟩;intro k a;rcases lB.1 a with rfl|a
  ·exact i
  ·exact c k a
theorem zbv.dn:∀ {u v:List Nat}{y:Nat},zbv d start (v++u) y->goal y=kC->(∀ l∈u,l∈L)->∃ x,zbv d start v x/\Dn d L goal u.length x:=by
 intro u
 induction u with
 |nil=>intro v y h hg _;exact⟨y,by simpa using h,hg⟩
 |cons l u ih =>
  intro v y h hg hl;have a:zbv d start ((v++[l])++u) y:=by simpa using h
  obtain⟨x,b,c⟩:=ih a hg (fun k hk=>hl k (by simp [hk]));obtain⟨n,f,g⟩:=b.inv;exact⟨n,f,l,hl l sM,x,g,c⟩
theorem Dn.least (h:Dn d L goal n x):∃ m,m<=n/\Mn d L goal m x:=by
 induction n using Nat.strongRecOn with
 |_ n ih =>
  by_cases hm:∃ m,m<n/\Dn d L goal m x
  ·obtain⟨m,a,b⟩:=hm;obtain⟨k,f,c⟩:=ih m a b;exact⟨k,oM,c⟩
  ·exact⟨n,dD _,h,fun m a b=>hm ⟨m,a,b⟩⟩
theorem Mn.next (h:Mn d L goal (n+1) x):∃ l∈L,∃ y∈d x l,Mn d L goal n y:=by
 obtain⟨⟨l,a,y,b,c⟩,f⟩:=h;exact⟨l,a,y,b,c,fun m hm hd=>f (m+1) oM ⟨l,a,y,b,hd⟩⟩
theorem Mn.uniq (h:Mn d L goal m x) (k:Mn d L goal n x):m=n:=by
 rcases fI m n with a|a|a
 ·exact absurd h.1 (k.2 m a)
 ·exact a
 ·exact absurd k.1 (h.2 n a)
def Dst (d:Nat->Nat->List Nat) (L:List Nat) (goal:Nat->Bool) (k:Nat) (x:Nat) (v:Int):Prop:=(v = -1/\∀ m,m<k->¬ Dn d L goal m x)\/∃ n:Nat,n<k/\v=n/\Mn d L goal n x
def zbP (d:Nat->Nat->List Nat) (L:List Nat) (goal:Nat->Bool) (N k i:Nat) (ds:List Int):Prop:=ds.length=N/\∀ (x:Nat) (v:Int),ds[x]?=gO v->Dst d L goal (if x<i then k+1 else k) x v
theorem zbP.round_ (h:zbP d L goal N k N ds):zbP d L goal N (k+1) 0 ds:=⟨h.1,fun x v hx=>by
 have h1:=h.2 x v hx
 have h2:=(kT.1 hx).1
 rw [if_pos (by rw [<- h.1];exact h2)] at h1
 rw [if_neg oM]
 exact h1⟩
theorem zbP.init (hl:ds.length=N)(h:∀ (x:Nat) (v:Int),ds[x]?=gO v->v=if goal x then 0 else -1):zbP d L goal N 1 0 ds:=⟨hl,fun x v hx=>by
 rw [if_neg oM]
 have:=h x v hx
 cases hg:goal x
 ·rw [hg] at this
  refine Or.inl ⟨by simpa using this,fun m hm=>?_⟩
  obtain rfl:m=0:=oM
  simp [Dn,hg]
 ·rw [hg] at this
  exact Or.inr ⟨0,oM,by simpa using this,hg,fun m hm=>oM⟩⟩
theorem zbP.skip (h:zbP d L goal N k i ds)(hv:ds[i]?=gO v)(h0:0<=v):zbP d L goal N k (i+1) ds:=⟨h.1,fun x u hx=>by
 have h1:=h.2 x u hx
 by_cases hxi:x=i
 ·subst hxi
  rw [hv] at hx
  obtain rfl:=kS hx
  rw [if_pos oM]
  rw [if_neg oM] at h1
  rcases h1 with ⟨h2,_⟩|⟨n,h2,h3⟩
  ·omega
  ·exact Or.inr ⟨n,oM,h3⟩
 ·by_cases h2:x<i
  ·rw [if_pos h2] at h1
   rw [if_pos oM]
   exact h1
  ·rw [if_neg h2] at h1
   rw [if_neg oM]
   exact h1⟩
def zjS (d:Nat->Nat->List Nat) (L:List Nat) (ds:List Int) (k:Nat) (x:Nat):Bool:=L.any fun l=>(d x l).any fun y=>ds.getD y (-1)==(k:Int)
theorem near_iff :zjS d L ds k x=kC↔∃ l∈L,∃ y∈d x l,ds[y]?=gO (k:Int):=by
 simp only [zjS,List.any_eq_true,beq_iff_eq];constructor
 ·rintro ⟨l,a,y,b,h⟩;refine⟨l,a,y,b,?_⟩;rw [dF] at h;cases hh:ds[y]? with
  |none=>rw [hh] at h;simp at h
  |some v=>rw [hh] at h;simp at h;rw [h]
 ·rintro ⟨l,a,y,b,h⟩;exact⟨l,a,y,b,by rw [dF,h];rfl⟩
theorem zbP.near (h:zbP d L goal N (k+1) i ds)(hd:∀ x l,x<N->l∈L->∀ y∈d x l,y<N)(hv:ds[i]?=gO v)(h0:v<0):zjS d L ds k i=kC↔Mn d L goal (k+1) i:=by
 have p:i<N:=by rw [<- h.1];exact (kT.1 hv).1
 have u:=h.2 i v hv;rw [if_neg oM] at u;have g:∀ m,m<k+1->¬ Dn d L goal m i:=by
  rcases u with ⟨_,b⟩|⟨n,_,c,_⟩
  ·exact b
  ·omega
 have s:∀ y (n:Nat),ds[y]?=gO (n:Int)->Mn d L goal n y:=fun y n a=>by
  rcases h.2 y _ a with ⟨b,_⟩|⟨m,_,b,c⟩
  ·omega
  ·obtain rfl:n=m:=oM;exact c
 rw [near_iff];constructor
 ·rintro ⟨l,f,y,a,r⟩;exact⟨⟨l,f,y,a,(s y k r).1⟩,g⟩
 ·rintro ⟨⟨l,f,y,a,b⟩,_⟩;refine⟨l,f,y,a,?_⟩;have q:y<ds.length:=by rw [h.1];exact hd i l p f y a
  have j:ds[y]?=gO ds[y]:=dE q;rw [j]
  congr 1
  rcases h.2 y _ j with ⟨_,c⟩|⟨n,_,c,t⟩
  ·exact absurd b (c k (by split<;>omega))
  ·rw [c];rcases fI n k with o|o|o
   ·exact absurd ⟨l,f,y,a,t.1⟩ (g (n+1) oM)
   ·rw [o]
   ·exact absurd b (t.2 k o)
theorem zbP.keep (h:zbP d L goal N (k+1) i ds)(hd:∀ x l,x<N->l∈L->∀ y∈d x l,y<N)(hv:ds[i]?=gO v)(h0:v<0)(hn:zjS d L ds k i=kK):zbP d L goal N (k+1) (i+1) ds:=⟨h.1,fun x u hx=>by
 have h1:=h.2 x u hx
 by_cases hxi:x=i
 ·subst hxi
  have hM:¬ Mn d L goal (k+1) x:=fun hm=>by rw [(h.near hd hv h0).2 hm] at hn;cases hn
  rw [hv] at hx
  obtain rfl:=kS hx
  rw [if_pos oM]
  rw [if_neg oM] at h1
  rcases h1 with ⟨h2,h3⟩|⟨n,h2,h3,_⟩
  ·refine Or.inl ⟨h2,fun m hm hdm=>?_⟩
   by_cases he:m=k+1
   ·subst he
    exact hM ⟨hdm,h3⟩
   ·exact h3 m oM hdm
  ·omega
 ·by_cases h2:x<i
  ·rw [if_pos h2] at h1
   rw [if_pos oM]
   exact h1
  ·rw [if_neg h2] at h1
   rw [if_neg oM]
   exact h1⟩
theorem zbP.put (h:zbP d L goal N (k+1) i ds)(hd:∀ x l,x<N->l∈L->∀ y∈d x l,y<N)(hv:ds[i]?=gO v)(h0:v<0)(hn:zjS d L ds k i=kC):zbP d L goal N (k+1) (i+1) (ds.set i ((k+1:Nat):Int)):=⟨by rw [List.length_set];exact h.1,fun x u hx=>by
 by_cases hxi:x=i
 ·subst hxi
  rw [List.getElem?_set_self (kT.1 hv).1] at hx
  obtain rfl:=kS hx
  rw [if_pos oM]
  exact Or.inr ⟨k+1,oM,rfl,(h.near hd hv h0).1 hn⟩
 ·rw [List.getElem?_set_ne (fun e=>hxi e.symm)] at hx
  have h1:=h.2 x u hx
  by_cases h2:x<i
  ·rw [if_pos h2] at h1
   rw [if_pos oM]
   exact h1
  ·rw [if_neg h2] at h1
   rw [if_neg oM]
   exact h1⟩
theorem set_count {u:Int}(hv:ds[i]?=gO v)(h0:v = -1)(hu:0<=u):(ds.set i u).count (-1)+1=ds.count (-1):=by
 obtain⟨a,e⟩:=kT.1 hv;have b:1<=ds.count (-1):=List.count_pos_iff.2 (by rw [<- h0,<- e];exact fY a);rw [List.count_set a,e,h0];have:(u==(-1:Int))=kK:=by simp;omega
 simp [this];omega
def DsFin (d:Nat->Nat->List Nat) (L:List Nat) (goal:Nat->Bool) (N:Nat) (ds:List Int):Prop:=ds.length=N/\∀ (x:Nat) (v:Int),ds[x]?=gO v->(v = -1/\∀ m,¬ Dn d L goal m x)\/∃ n:Nat,v=n/\Mn d L goal n x
theorem zbP.fin (h:zbP d L goal N k N ds)(hd:∀ x l,x<N->l∈L->∀ y∈d x l,y<N)(hno:∀ x,x<N->¬ Mn d L goal k x):DsFin d L goal N ds:=by
 have p:∀ n x,x<N->¬ Mn d L goal (k+n) x:=by
  intro n
  induction n with
  |zero=>exact hno
  |succ n ih =>
   intro x hx hm;obtain⟨l,j,y,o,c⟩:=hm.next;exact ih y (hd x l hx j y o) c
 refine⟨h.1,fun x v hx=>?_⟩;have a:x<N:=by rw [<- h.1];exact (kT.1 hx).1
 have c:=h.2 x v hx;rw [if_pos a] at c;rcases c with ⟨i,f⟩|⟨n,_,f⟩
 ·refine Or.inl ⟨i,fun m hm=>?_⟩;obtain⟨b,_,g⟩:=hm.least
  by_cases h5:b<k
  ·exact f b oM g.1
  ·have:=p (b - k) x a;rw [show k+(b - k)=b by omega] at this;exact this g
 ·exact Or.inr ⟨n,f⟩
theorem DsFin.val (h:DsFin d L goal N ds) (hx:x<N):ds[x]?=gO (n:Int)↔Mn d L goal n x:=by
 have f:x<ds.length:=by rw [h.1];exact hx
 have c:ds[x]?=gO ds[x]:=dE f;constructor
 ·intro h1;rcases h.2 x _ h1 with ⟨a,_⟩|⟨m,a,b⟩
  ·omega
  ·obtain rfl:n=m:=oM;exact b
 ·intro hm;rw [c];rcases h.2 x _ c with ⟨_,a⟩|⟨m,a,b⟩
  ·exact absurd hm.1 (a n)
  ·rw [a,b.uniq hm]
theorem wval_lt (w:List Nat)(h:∀ l∈w,l<6):zcI w<7 ^ w.length/\7 ^ w.length<=6*zcI w+1:=by
 have a:∀ n (w:List Nat),w.length=n->(∀ l∈w,l<6)->zcI w<7 ^ n/\7 ^ n<=6*zcI w+1:=by
  intro n
  induction n with
  |zero =>
   intro w hw _;obtain rfl:=eE hw;simp [zcI]
  |succ n ih =>
   intro w hw hl;rcases zaf w with rfl|⟨u,l,rfl⟩
   ·simp at hw
   ·have b:=ih u (by simpa using hw) (fun x hx=>hl x (by simp [hx]));have c:=hl l sM;rw [zaL,Nat.pow_succ];omega
 exact a w.length w rfl h
theorem zit {u v:List Nat}(hu:∀ l∈u,l<6)(hv:∀ l∈v,l<6)(h:v.length<u.length):zcI v<zcI u:=by
 have b:=wval_lt u hu;have c:=wval_lt v hv;have a:7 ^ (v.length+1)<=7 ^ u.length:=eL oM h;rw [Nat.pow_succ] at a;omega
structure zen (d:Nat->Nat->List Nat) (L:List Nat) (goal:Nat->Bool) (start:List Nat) (at_:List Nat) (v:List Nat) (r:Nat):Prop where
 goes:∀ x∈at_,zbv d start v x/\Mn d L goal r x
 all:∀ x,zbv d start v x->Dn d L goal r x->x∈at_
 first:∀ u:List Nat,(∀ l∈u,l∈L)->u.length=v.length->zcI u<zcI v->∀ x,zbv d start u x->¬ Dn d L goal r x
 least:∀ u:List Nat,(∀ l∈u,l∈L)->u.length<v.length+r->∀ x,zbv d start u x->goal x=kK
 letters:∀ l∈v,l∈L
 some_:at_≠[]
theorem zen.begin_ (h:Mn d L goal r x):zen d L goal [x] [x] [] r:=by
 refine⟨fun y hy=>?_,fun y hy _=>hy.ah,fun u _ hu=>?_,fun u hl hu y hy=>?_,sM,sM⟩
 ·simp at hy;subst hy;exact⟨.nil sM,h⟩
 ·simp at hu;subst hu;intro h;simp [zcI] at h
 ·simp at hu;cases hg:goal y
  ·rfl
  ·exfalso;obtain⟨z,b,a⟩:=zbv.dn (v:=[]) (u:=u) (by simpa using hy) hg hl;have:=b.ah;simp at this;subst this;exact h.2 u.length oM a
theorem zen.fin {at_ v:List Nat}(h:zen d L goal start at_ v 0)(hL:∀ l∈L,l<6):Found d start goal L v:=by
 refine⟨h.letters,?_,fun u hu hlt x a=>?_⟩
 ·obtain⟨x,a⟩:=List.exists_mem_of_ne_nil _ h.some_;exact⟨x,(h.goes x a).1,(h.goes x a).2.1⟩
 ·rcases fI u.length v.length with b|b|b
  ·exact h.least u hu oM x a
  ·have:=h.first u hu b hlt x a
   cases hg:goal x
   ·rfl
   ·exact absurd hg this
  ·have:=zit (u:=u) (v:=v) (fun l hl=>hL l (hu l hl)) (fun l hl=>hL l (h.letters l hl)) b;omega
theorem zen.exists_ {at_ v:List Nat}(h:zen d L goal start at_ v (r+1)):∃ (k l:Nat),L[k]?=gO l/\∃ x n,n∈at_/\x∈d n l/\Mn d L goal r x:=by
 obtain⟨n,a⟩:=List.exists_mem_of_ne_nil _ h.some_;obtain⟨l,f,y,g,b⟩:=(h.goes n a).2.next;obtain⟨k,c⟩:=eN f;exact⟨k,l,c,y,n,a,g,b⟩
theorem zen.step {at_ v next:List Nat}(h:zen d L goal start at_ v (r+1))(hL:Rise L)(hk:L[k]?=gO l)(hn:∀ x,x∈next↔∃ n∈at_,x∈d n l/\Mn d L goal r x)(hne:next≠[])
  (hno:∀ (j m:Nat),j<k->L[j]?=gO m->∀ n∈at_,∀ x∈d n m,¬ Mn d L goal r x):zen d L goal start next (v++[l]) r:=by
 have t:∀ l∈L,l<6:=hL.1;have c:=dC hk;have f:∀ (u:List Nat),(∀ m∈u,m∈L)->u.length=v.length+1->∀ x,zbv d start u x->Dn d L goal r x->Mn d L goal r x:=by
  intro u hu hlen x hx hd;refine⟨hd,fun m hm hdm=>?_⟩;obtain⟨s,g,b,y,C,F⟩:=hdm.word hx;have:=h.least (u++s) (fun z hz=>by
   rcases kY.1 hz with a|a
   ·exact hu z a
   ·exact b z a) (by rw [eA];omega) y C
  rw [this] at F;cases F
 refine⟨fun x hx=>?_,fun x hx hd=>?_,fun u hu hlen hlt x hx hd=>?_,fun u hu hlen=>?_,?_,hne⟩
 ·obtain⟨n,g,b,C⟩:=(hn x).1 hx;exact⟨.snoc (h.goes n g).1 b,C⟩
 ·obtain⟨n,g,b⟩:=hx.inv;have E:n∈at_:=h.all n g ⟨l,c,x,b,hd⟩;exact (hn x).2 ⟨n,E,b,f (v++[l]) (fun m hm=>by
   rcases kY.1 hm with a|a
   ·exact h.letters m a
   ·rw [lA.1 a];exact c) sM x hx hd⟩
 ·rcases zaf u with rfl|⟨u,m,rfl⟩
  ·simp at hlen
  ·obtain⟨n,g,b⟩:=hx.inv;have o:=hu m sM;have q:∀ z∈u,z∈L:=fun z hz=>hu z (by simp [hz]);have i:u.length=v.length:=by simpa using hlen
   have p:Dn d L goal (r+1) n:=⟨m,o,x,b,hd⟩;rw [zaL,zaL] at hlt;have H:=t m o;have G:=t l c
   by_cases hw:zcI u<zcI v
   ·exact h.first u q i hw n g p
   ·have e:zcI u=zcI v:=oM;obtain rfl:=zkq _ u v (dD _) (fun z hz=>t z (q z hz)) (fun z hz=>t z (h.letters z hz)) e;obtain⟨j,B⟩:=eN o;have D:j<k:=by
     rcases fI j k with a|a|a
     ·exact a
     ·subst a;rw [hk] at B;have:=kS B;omega
     ·have:=hL.2 k j _ _ hk B a;omega
    exact hno j m D B n (h.all n g p) x b (f _ hu sM x hx hd)
 ·exact h.least u hu (by rw [eA,List.length_singleton] at hlen;omega)
 ·intro m hm;rcases kY.1 hm with a|a
  ·exact h.letters m a
  ·rw [lA.1 a];exact c
theorem lost_of (h:∀ m,¬ Dn d L goal m x):Lost d [x] goal L:=fun v hv y hy=>by
 cases hg:goal y
 ·rfl
 ·exfalso
  obtain⟨z,hz,hd⟩:=zbv.dn (v:=[]) (u:=v) (by simpa using hy) hg hv
  have:=hz.ah
  simp at this
  subst this
  exact h _ hd
theorem goes_congr {d':Nat->Nat->List Nat}{start:List Nat}(hs:∀ x∈start,x<N)(hd:∀ x l,x<N->l∈L->(∀ y,y∈d x l↔y∈d' x l)/\∀ y∈d x l,y<N){v:List Nat}(hv:∀ l∈v,l∈L):∀ {x:Nat},(zbv d start v x↔zbv d' start v x)/\(zbv d start v x->x<N):=by
 have g:∀ n (v:List Nat),v.length=n->(∀ l∈v,l∈L)->∀ x,(zbv d start v x↔zbv d' start v x)/\(zbv d start v x->x<N):=by
  intro n
  induction n with
  |zero =>
   intro v hv _ x;obtain rfl:=eE hv;exact⟨⟨fun h=>.nil h.ah,fun h=>.nil h.ah⟩,fun h=>hs x h.ah⟩
  |succ n ih =>
   intro v hn hv x;rcases zaf v with rfl|⟨u,l,rfl⟩
   ·simp at hn
   ·have f:=hv l sM;have a:=ih u (by simpa using hn) (fun m hm=>hv m (by simp [hm]));refine⟨⟨fun h=>?_,fun h=>?_⟩,fun h=>?_⟩
    ·obtain⟨m,b,c⟩:=h.inv;exact .snoc ((a m).1.1 b) (((hd m l ((a m).2 b) f).1 x).1 c)
    ·obtain⟨m,b,c⟩:=h.inv;have i:=(a m).1.2 b;exact .snoc i (((hd m l ((a m).2 i) f).1 x).2 c)
    ·obtain⟨m,b,c⟩:=h.inv;exact (hd m l ((a m).2 b) f).2 x c
 exact fun {x}=>g v.length v rfl hv x
theorem zfD {l:List Nat}(h:l.Nodup) (hl:∀ x∈l,x<p):l.length<=p:=by
 have a:l ⊆ List.range p:=fun x hx=>List.mem_range.2 (hl x hx);have:=List.Nodup.length_le_of_subset h a;simpa using this
theorem Mn.lt (h:Mn d L goal n x)(hx:x<N)(hd:∀ x l,x<N->l∈L->∀ y∈d x l,y<N):n<N:=by
 have c:∀ n x,x<N->Mn d L goal n x->∃ b:List Nat,b.length=n+1/\b.Nodup/\∀ y∈b,y<N/\∃ m,m<=n/\Mn d L goal m y:=by
  intro n
  induction n with
  |zero=>intro x hx h;exact⟨[x],rfl,sM,fun y a=>by simp at a;subst a;exact⟨hx,0,dD _,h⟩⟩
  |succ n ih =>
   intro x hx h;obtain⟨l,r,y,a,k⟩:=h.next;obtain⟨b,f,g,o⟩:=ih y (hd x l hx r y a) k;refine⟨x :: b,by simp [f],List.nodup_cons.2 ⟨fun hm=>?_,g⟩,fun z j=>?_⟩
   ·obtain⟨_,m,s,i⟩:=o x hm;have:=h.uniq i;omega
   ·rcases lB.1 j with rfl|j
    ·exact⟨hx,n+1,dD _,h⟩
    ·obtain⟨p,m,t,q⟩:=o z j;exact⟨p,m,oM,q⟩
 obtain⟨b,k,f,g⟩:=c n x hx h;have:=zfD f fun y a=>(g y a).1;omega
end
def IntP:Lay Int:=fun _ _ _ r n=>r=.int kA n
theorem IntP.ok:Lay.Ok IntP:=⟨fun h _ _=>h,fun h _ _=>h⟩
theorem Lst.ax (h:Reads W lo hi 1 A xs.length (ints xs)):Lst IntP W lo hi A xs:=⟨ints xs,h,fun i r x hr hx=>by
 simp only [ints,eC,hx,Option.map_some] at hr
 exact (kS hr).symm⟩
theorem Lst.int (h:Lst IntP W lo hi A xs)(hk:k<xs.length):∃ b o x,A=gO ⟨b,o,gP⟩/\lo<=b/\b<hi/\Hid (xs[k]?=gO x)/\W.cell? ⟨b,o+k,gP⟩=gO (.int kA x):=by
 obtain⟨b,o,r,x,e,a,c,d,f,g⟩:=h.get hk;exact⟨b,o,x,e,a,c,d,by rw [f,g]⟩
def nearL (rows:List (List Nat)) (ds:List Int) (k:Int):Bool:=rows.any fun ys=>ys.any fun y=>ds.getD y (-1)==k
theorem near_row {d:Nat->Nat->List Nat}   :nearL (L.map fun l=>d x l) ds (k:Int)=zjS d L ds k x:=by
 unfold nearL zjS;rw [List.any_map];rfl
theorem any_stop {α:Type}{l:List α}{p:α->Bool}{x:α}(h:l[k]?=gO x)(hp:p x=kC):l.any p=kC:=lG.2 ⟨x,dC h,hp⟩
theorem any_step {α:Type}{l:List α}{p:α->Bool}{x:α}(h:l[k]?=gO x)(hk:(l.take k).any p=kK)(hp:p x=kK):(l.take (k+1)).any p=kK:=by
 rw [eB,h];simp [hk,hp]
theorem spec_l4Near {B:Option Addr}{rows:List (List Nat)}{k:Int}(h:Lst (LstP zbA) w lo hi A rows)(h':Lst IntP w lo' hi' B ds)(hr:rows.length=r)(hn:ds.length=n)(hb:∀ ys∈rows,∀ y∈ys,y<n) :
  kQ kN 277 #[fQ A r c,fQ B n c',k] w fun e w'=>e=kP (.bool (nearL rows ds k))/\w=w':=by
 have E:=za hb;have C:=za hr;have F:=za hn;have t:=h.len;have u:=h'.len;rw [hr] at t;rw [hn] at u;clear hb hr hn
 go_enter Tryz.func277,Tryz.ntmps277
 go_wp2
 go_loop [7,8] (fun i _=>∃ a:Nat,i=.int kA a/\a<=r/\Hid ((rows.take a).any (fun ys=>ys.any fun y=>ds.getD y (-1)==k)=kK)) (fun i _=>r - (intOf i).toNat)
 case atStart=>exact⟨0,rfl,dH _,rfl⟩
 case round =>
  obtain⟨a,rfl,R,s⟩:=hrel
  by_cases hlt:a<r
  ·obtain⟨b,o,v,ys,rfl,_,_,l,S,L,Q,rfl,D⟩:=h.get (show a<rows.length by rw [C.out];exact hlt);have I:=D.len;go_wp2
   go_loop [8] (fun i=>∃ j:Nat,i=.int kA j/\j<=ys.length/\Hid ((ys.take j).any (fun y=>ds.getD y (-1)==k)=kK)) (fun i=>ys.length - (intOf i).toNat)
   case atStart=>exact⟨0,rfl,dH _,rfl⟩
   case round =>
    obtain⟨j,rfl,T,d⟩:=hrel
    by_cases hlj:j<ys.length
    ·obtain⟨M,U,y,rfl,_,_,m,G⟩:=D.num hlj;have z:=E.out ys (dC l.out) y (dC m.out);obtain⟨O,V,v,rfl,_,_,J,H⟩:=h'.int (show y<ds.length by rw [F.out];exact z);have q:=za (show ds.getD y (-1)=v by rw [dF,J.out];rfl)
     by_cases hvk:v=k
     ·subst hvk;have f:=za (show nearL rows ds v=kC from any_stop l.out (any_stop m.out (by rw [q.out];simp)));go_wp2;go_ret;exact⟨zu (by rw [f.out]),rfl⟩
     ·have x:(v==k)=kK:=by simp;omega
      have g:=za (any_step (p:=fun y=>ds.getD y (-1)==k) m.out d.out (show (ds.getD y (-1)==k)=kK by rw [q.out];exact x));go_wp2
      go_round
      case rel=>exact⟨j+1,gM,oM,g⟩
      case measure=>exact uM
    ·obtain rfl:j=ys.length:=oM;rw [eZ] at d;have g:=za (any_step (p:=fun ys=>ys.any fun y=>ds.getD y (-1)==k) l.out s.out d.out);go_wp2
     go_round
     case rel=>exact⟨a+1,gM,oM,g⟩
     case measure=>exact uM
  ·obtain rfl:a=r:=oM;have f:=za (show nearL rows ds k=kK by
    have:=s.out;rw [dK (by rw [C.out];exact dD _)] at this;exact this)
   go_wp2;go_ret;exact⟨zu (by rw [f.out]),rfl⟩
theorem zbP.known {d:Nat->Nat->List Nat}{goal:Nat->Bool}(h:zbP d L goal N k i ds)(hv:ds[i]?=gO v)(h0:0<=v):¬ Mn d L goal k i:=fun hm=>by
 have h1:=h.2 i v hv
 rw [if_neg oM] at h1
 rcases h1 with ⟨h2,_⟩|⟨n,h2,_,h3⟩
 ·omega
 ·have:=h3.uniq hm
  omega
theorem zbP.neg {d:Nat->Nat->List Nat}{goal:Nat->Bool}(h:zbP d L goal N k i ds)(hv:ds[x]?=gO v)(h0:v<0):v = -1:=by
 rcases h.2 x v hv with ⟨a,_⟩|⟨n,_,a,_⟩
 ·exact a
 ·omega
def RetDs (d:Nat->Nat->List Nat) (L:List Nat) (goal:Nat->Bool) (N base gd cap:Nat) (w:kJ) (e:Ending) (w':kJ):Prop:=
 e=kP (.tuple #[])/\∃ ds',Hid (DsFin d L goal N ds')/\w'.ownsRow base 3 1 (fQ (gO gd) N cap) N (ints ds')/\Frm (fun k=>k=gd) w w'
theorem spec_l4Dist {gd:Nat}{d:Nat->Nat->List Nat}{goal:Nat->Bool}{ds:List Int}(h:Lst P3 w lo hi A (mvs d L N))(hg:gd<lo\/hi<=gd) (zkr:w.ownsRow base 3 1 (fQ (gO gd) N cap) N (ints ds))(hds:zbP d L goal N 1 0 ds)(hN:N<=1048576)(hd:∀ x l,x<N->l∈L->∀ y∈d x l,y<N) :
  kQ kN 219 #[fQ A N c,fQ (gO gd) N cap] w (RetDs d L goal N base gd cap w):=by
 have HM:=za (fun W (hW:Frm (fun k=>k=gd) w W)=>h.frm P3.ok hW (fun k F R e=>oM));have Q:=za hd;have z:=za zkr;have E:=za hds;clear h hd zkr hds
 go_enter Tryz.func219,Tryz.ntmps219
 go_wp2
 go_loopw [4,5,6] (fun m v _ wr=>∃ (k:Nat) (ds:List Int) (g:Bool),m=.bool g/\v=.int kA ((k:Int)+1)/\k<=N+1/\Hid (if g=kC then zbP d L goal N (k+1) 0 ds/\k+ds.count (-1)<=N else DsFin d L goal N ds)/\wr.ownsRow base 3 1 (fQ (gO gd) N cap) N (ints ds)/\Frm (fun k=>k=gd) w wr) (fun _ v _ _=>N+3 - (intOf v).toNat)
 case atStart=>exact⟨0,ds,kC,rfl,rfl,oM,(show Hid _ from by
  rw [if_pos rfl];refine⟨E.out,?_⟩;have:=List.count_le_length (l:=ds) (a:=(-1:Int));rw [E.out.1] at this;omega),z.out,jC _ _⟩
 case round =>
  clear z E;clear ds;obtain⟨k,ds,g,rfl,rfl,hk,b,zkr,f⟩:=hrel;cases g
  ·have M:=za (show RetDs d L goal N base gd cap w (kP (.tuple #[])) wr from ⟨rfl,ds,(show DsFin d L goal N ds by have:=b.out;simpa using this),zkr,f⟩);clear zkr;go_wp2;exact bodyPost_ret (v:=.tuple #[]) (by simp [results,Tryz.results219,go_sem]) rfl M.out
  ·obtain⟨B,S⟩:zbP d L goal N (k+1) 0 ds/\k+ds.count (-1)<=N:=by have:=b.out;simpa using this
   have t:=za B;clear b B;obtain⟨O,G⟩:∃ O,Hid (ds.count (-1)=O):=⟨_,rfl⟩;rw [G.out] at S;go_wp2
   go_loopw [4,6] (fun m i wr=>∃ (i':Nat) (ds:List Int) (g:Bool),m=.bool g/\i=.int kA i'/\i'<=N/\Hid (zbP d L goal N (k+1) i' ds/\ds.count (-1)+(if g=kC then 1 else 0)<=O/\(g=kK->∀ x,x<i'->¬ Mn d L goal (k+1) x))/\wr.ownsRow base 3 1 (fQ (gO gd) N cap) N (ints ds)/\Frm (fun k=>k=gd) w wr) (fun _ i _=>N - (intOf i).toNat)
   case atStart=>exact⟨0,ds,kK,rfl,rfl,dH _,(show Hid _ from ⟨t.out,by rw [G.out];simp,fun _ x hx=>oM⟩),zkr,f⟩
   case round =>
    clear t zkr f G;clear ds;obtain⟨i,ds,g,rfl,rfl,hi,b,zkr,f⟩:=hrel
    by_cases hlt:i<N
    ·have o:ds.length=N:=b.out.1.1;obtain⟨bi,oi,v,hA,_,_,J,X⟩:=(Lst.ax (xs:=ds) (by rw [o];exact eQ zkr)).int (show i<ds.length by omega);obtain⟨rfl,rfl⟩:gd=bi/\0=oi:=by injection hA with e;injection e with e1 e2;exact⟨e1,e2⟩
     rw [eK] at X;clear hA
     by_cases hv0:v<0
     ·have Z:=b.out.1.neg J.out hv0;subst Z;obtain⟨bm,om,r,V,rfl,_,_,T,ah,Ar,cr,rfl,I⟩:=(HM.out wr f).get (show i<(mvs d L N).length by rw [zdR];exact hlt);have C:=za (show V=L.map fun l=>d i l by
       have F:=T.out;rw [mvs,eC,List.getElem?_range hlt] at F;exact (kS F).symm)
      have s:=za (show nearL V ds (k:Int)=zjS d L ds k i by rw [C.out];exact near_row);have q:=Lst.ax (xs:=ds) (by rw [o];exact eQ zkr);have HC:=za (spec_l4Near (c:=cr) (c':=cap) (k:=(k:Int)) I q rfl o (fun ys hys y hy=>by
       rw [C.out] at hys;obtain⟨l,hl,rfl⟩:=kW.1 hys;exact Q.out i l hlt hl y hy))
      have ai:(k:Int)+1 - 1=(k:Int):=oM;cases hnb:zjS d L ds k i
      ·have H:=za (s.out.trans hnb);have n:=za hnb;clear hnb I q;have j:=za (show zbP d L goal N (k+1) (i+1) ds/\ds.count (-1)+(if g=kC then 1 else 0)<=O/\(g=kK->∀ x,x<i+1->¬ Mn d L goal (k+1) x) from
        ⟨b.out.1.keep Q.out J.out hv0 n.out,b.out.2.1,fun hm x hx=>by
         by_cases e:x=i
         ·subst e;intro hM;rw [(b.out.1.near Q.out J.out hv0).2 hM] at n;exact absurd n.out dM
         ·exact b.out.2.2 hm x oM⟩)
       go_wp2_with (go_at_call 277;with_reducible refine HC.out.mono ?_;rw [H.out];rintro e w4 ⟨rfl,rfl⟩)
       go_roundw
       case rel=>exact⟨i+1,ds,g,rfl,gM,oM,j,zkr,f⟩
       case measure=>exact uM
      ·have H:=za (s.out.trans hnb);have n:=za hnb;clear hnb I q;have j:=za (show zbP d L goal N (k+1) (i+1) (ds.set i ((k+1:Nat):Int))/\(ds.set i ((k+1:Nat):Int)).count (-1)+(if kC=kC then 1 else 0)<=O/\(kC=kK->∀ x,x<i+1->¬ Mn d L goal (k+1) x) from
        ⟨b.out.1.put Q.out J.out hv0 n.out,by
         have F:=set_count (u:=((k+1:Nat):Int)) J.out rfl oM;have R:=b.out.2.1;simp only [if_true];cases g
         ·simp at R;omega
         ·simp at R;omega,fun h=>by cases h⟩)
       have f0:=zkr.frozenAt i;have U:=zkr.stored i (.int kA ((k:Int)+1));have D:(ints ds).set i (.int kA ((k:Int)+1))=ints (ds.set i ((k+1:Nat):Int)):=by
        rw [ints,ints,List.map_set];rfl
       rw [D] at U;clear D;go_wp2_with (go_at_call 277;with_reducible refine HC.out.mono ?_;rw [H.out];rintro e w4 ⟨rfl,rfl⟩)
       go_roundw
       case rel=>exact⟨i+1,_,kC,rfl,gM,oM,j,U.1,f.cell (p:=⟨gd,i,gP⟩) rfl _⟩
       case measure=>exact uM
     ·have j:=za (show zbP d L goal N (k+1) (i+1) ds/\ds.count (-1)+(if g=kC then 1 else 0)<=O/\(g=kK->∀ x,x<i+1->¬ Mn d L goal (k+1) x) from
       ⟨b.out.1.skip J.out oM,b.out.2.1,fun hm x hx=>by
        by_cases e:x=i
        ·subst e;exact b.out.1.known J.out oM
        ·exact b.out.2.2 hm x oM⟩)
      go_wp2;go_roundw
      case rel=>exact⟨i+1,ds,g,rfl,gM,oM,j,zkr,f⟩
      case measure=>exact uM
    ·obtain rfl:N=i:=oM;have M:=za (show if g=kC then zbP d L goal N (k+1+1) 0 ds/\k+1+ds.count (-1)<=N else DsFin d L goal N ds by
      obtain⟨F,R,h3⟩:=b.out;cases g
      ·rw [if_neg dM];exact F.fin Q.out (h3 rfl)
      ·rw [if_pos rfl];refine⟨F.round_,?_⟩;simp at R;omega)
     have Y:k+1<=N+1:=oM;go_wp2;go_roundw
     case rel=>exact⟨k+1,ds,g,rfl,gM,Y,M,zkr,f⟩
     case measure=>exact uM
def Rd (w:kJ) (R M:Nat):Prop:=
 ∃ (A:Option Addr) (n c p:Nat),p<=M/\n<=2000/\Blk w R 163 #[fQ A n c,p]/\(0<n->∃ g o,A=gO ⟨g,o,gP⟩/\g<R/\∀ j,j<n->∃ b:Nat,b<256/\w.cell? ⟨g,o+j,gP⟩=gO (.int .u8 b))
def Dr (R:Nat) (w w':kJ):Prop:=Frm (fun k=>k=R) w w'
theorem Dr.refl (R:Nat) (w:kJ):Dr R w w:=jC _ _
theorem Dr.trans {c:kJ}(h:Dr R a b) (k:Dr R b c):Dr R a c:=Frm.trans h k
theorem Dr.ext {c:kJ}(h:Dr R a b) (k:Ext b c):Dr R a c:=Frm.ext h k
theorem Ext.dr (h:Ext a b):Dr R a b:=h.ak
theorem Dr.drew (h:Dr R a w):Dr R a w.drew:=⟨h.os,h.tape,h.output,h.size,h.block⟩
theorem Dr.drewN (h:Dr R a w) (n:Nat):Dr R a (w.drewN n):=⟨h.os,h.tape,h.output,h.size,h.block⟩
theorem Dr.alloc (h:Dr R a w) (o:Obj):Dr R a (w.alloc o):=h.ext ((dB _).alloc _)
theorem Dr.ag (h:Dr R a w){p:Addr}(hp:a.heap.size<=p.block) (u:kL):Dr R a (w.setCell p u):=
 ⟨h.os,h.tape,h.output,by simpa [World.setCell] using h.size,fun k hk hn=>(Below.heap_setCell _ _ _ _ oM).trans (h.block k hk hn)⟩
theorem Dr.grown {row:Option Nat}(h:Dr R a w)(hg:w.grownBy w' row)(hr:∀ k,row=gO k->a.heap.size<=k):Dr R a w':=
 ⟨hg.os.trans h.os,hg.tape.trans h.tape,hg.output.trans h.output,dW h.size hg.size,
  fun k hk hn=>(hg.block k (eI hk h.size) (fun e=>by have:=hr k e.symm;omega)).trans (h.block k hk hn)⟩
theorem Blk.dr (h:Blk w g t cs)(hb:Dr R w w')(hg:g≠R):Blk w' g t cs:=h.frm hb hg
theorem Dr.aa (h:Dr R w w'){p:Addr}{v:kL}(hv:w.cell? p=gO v)(hp:p.block≠R):w'.cell? p=gO v:=
 (World.cell?_of_block (w:=w) (h.block _ (World.block_lt_of_cell? w p hv) hp)).trans hv
theorem Rd.ext (h:Rd w R M)(hb:Ext w w'):Rd w' R M:=by
 obtain⟨A,n,c,p,m,l,f,q⟩:=h;refine⟨A,n,c,p,m,l,f.ext hb,fun h0=>?_⟩;obtain⟨g,o,e,k,i⟩:=q h0;exact⟨g,o,e,k,fun j hj=>by obtain⟨b,a,d⟩:=i j hj;exact⟨b,a,hb.aa d⟩⟩
theorem Rd.more (h:Rd w R M)(hM:M<=N):Rd w R N:=by
 obtain⟨A,n,c,p,a,r⟩:=h;exact⟨A,n,c,p,dW a hM,r⟩
theorem Rd.lt (h:Rd w R M):R<w.heap.size:=by
 obtain⟨A,n,c,p,_,_,a,_⟩:=h;exact a.lt
theorem Rd.frm (h:Rd w R M)(hb:Frm S w w')(hS:∀ k,k<=R->¬ S k):Rd w' R M:=by
 obtain⟨A,n,c,p,q,m,f,r⟩:=h;refine⟨A,n,c,p,q,m,f.frm hb (hS R (dD _)),fun h0=>?_⟩;obtain⟨g,o,e,l,i⟩:=r h0;exact⟨g,o,e,l,fun j hj=>by
  obtain⟨b,d,a⟩:=i j hj;exact⟨b,d,(World.cell?_of_block (w:=w) (hb.block g (World.block_lt_of_cell? w _ a) (hS g oM))).trans a⟩⟩
def RetPick (R M:Nat) (n:Int) (w:kJ) (e:Ending) (w':kJ):Prop:=∃ k:Nat,e=kP (.int kA k)/\(1<=n->(k:Int)<n)/\(n<1->k=0)/\Rd w' R (M+1)/\Dr R w w'
theorem bits_xor_nat {a b:Nat}(ha:a<4611686018427387904)(hb:b<4611686018427387904):bits .xor kA (a:Int) (b:Int)=((a ^^^ b:Nat):Int):=by
 have c:a ^^^ b<2 ^ 62:=Nat.xor_lt_two_pow (by simpa using ha) (by simpa using hb);show IntKind.i64.wrap ((BitVec.ofInt 64 (a:Int) ^^^ BitVec.ofInt 64 (b:Int)).toNat:Int)=_;rw [BitVec.toNat_xor,zcD a oM,zcD b oM,IntKind.wrap_i64];omega
theorem zJ {n:Int}(h:Rd w R M)(hM:M<=1000000000) :
  kQ kN 73 #[kV (gO R),n] w (RetPick R M n w):=by
 obtain⟨A,m,c,p,hp,hm,u,D⟩:=h;have c0:=u.cell 0;have c1:=u.cell 1;have f1:=u.frozen 1;have r:=u.ab 1 (.int kA ((p:Int)+1));have f:=dG w R 1 (.int kA ((p:Int)+1));have az:(p:Int)<=1000000000:=oM;have q:Hid (Rd (w.setCell ⟨R,1,gP⟩ (.int kA ((p:Int)+1))) R (M+1)):=by
  refine za ⟨A,m,c,p+1,oM,hm,by simpa using r,fun h0=>?_⟩;obtain⟨g,o,e,U,G⟩:=D h0;exact⟨g,o,e,U,fun j hj=>by
   obtain⟨b,v,s⟩:=G j hj;exact⟨b,v,(World.cell?_of_block (w:=w) (f.block g (World.block_lt_of_cell? w _ s) (by show ¬ g=R;omega))).trans s⟩⟩
 simp only [List.getElem?_toArray,List.getElem?_cons_zero,jM] at c0 c1
 by_cases hn:n<1
 ·go_enter Tryz.func73,Tryz.ntmps73
  go_wp2;go_ret;exact⟨0,rfl,fun h=>oM,fun _=>rfl,q.out,f⟩
 ·by_cases h0:m=0
  ·subst h0
   go_enter Tryz.func73,Tryz.ntmps73
   go_wp2;go_ret;exact⟨0,rfl,fun h=>oM,fun _=>rfl,q.out,f⟩
  ·obtain⟨k,rfl⟩:∃ k:Nat,n=k:=⟨n.toNat,oM⟩;have av:(1:Int)<=(k:Int):=oM;obtain⟨g,o,rfl,U,G⟩:=D oM;have O:¬ g=R:=oM;have ax:(0:Int)<(m:Int):=oM;have ay:(m:Int)<=2000:=oM;have au:((m:Int)==0)=kK:=by simp;omega
   have L:=za G;clear G D
   by_cases hpm:p<m
   ·obtain⟨b,hb,ar⟩:=L.out p hpm;have aq:(b:Int)<256:=oM;have C:(p:Int)<(m:Int):=oM;have d:=za (iB b k)
    go_enter Tryz.func73,Tryz.ntmps73
    go_wp2;go_ret;exact⟨b % k,zao d.out.symm,fun _=>by rw [d.out];exact Int.emod_lt_of_pos _ oM,fun h=>oM,q.out,f⟩
   ·have Q:p % m<m:=iM _ oM;have S:(p*7+3) % m<m:=iM _ oM;have aA:p / m<=p:=Nat.div_le_self _ _;obtain⟨i,v,z⟩:=L.out _ Q;obtain⟨l,s,B⟩:=L.out _ S;have H:(p:Int).tmod (m:Int)=((p % m:Nat):Int):=by rw [Int.tmod_eq_emod_of_nonneg oM];exact (iB p m).symm
    have I:((p:Int)*7+3).tmod (m:Int)=(((p*7+3) % m:Nat):Int):=by rw [Int.tmod_eq_emod_of_nonneg oM];rw [iB];rfl
    have J:(p:Int).tdiv (m:Int)=((p / m:Nat):Int):=by rw [Int.tdiv_eq_ediv_of_nonneg oM];exact (iZ p m).symm
    have C:(m:Int)<=(p:Int):=oM;have t:∀ j,(w.setCell ⟨R,1,gP⟩ (.int kA ((p:Int)+1))).cell? ⟨g,j,gP⟩=w.cell? ⟨g,j,gP⟩:=fun j=>by
     refine World.cell?_of_block ?_;exact Below.heap_setCell _ _ _ _ (fun h=>O h)
    have e1:=(t _).trans z;have e2:=(t _).trans B;have d0:(w.setCell ⟨R,1,gP⟩ (.int kA ((p:Int)+1))).cell? R=gO (fQ (gO ⟨g,o,gP⟩) m c):=by simpa using r.cell 0
    have T1:=za H;have T2:=za I;have T3:=za J;clear t z B H I J u r;generalize p % m=Y at *;generalize (p*7+3) % m=Z at *;generalize p / m=F at *;obtain⟨x,D⟩:∃ x:Nat,x=i*131+l*1117+p*29+F*53:=⟨_,rfl⟩;have aB:x<100000000000:=oM;obtain⟨y,X⟩:∃ y:Nat,Hid (x ^^^ (x / 64)=y):=⟨_,rfl⟩;have E:=za (show bits .xor kA (x:Int) ((x:Int) / 64)=(y:Int) by rw [<- X.out];exact bits_xor_nat (a:=x) (b:=x / 64) oM oM);have aD:(y:Int)<1099511627776:=by
     have:x ^^^ (x / 64)<2 ^ 40:=Nat.xor_lt_two_pow oM oM;rw [X.out] at this;omega
    have d:=za (iB y k);have T:(i:Int)*131+(l:Int)*1117+(p:Int)*29+(F:Int)*53=(x:Int):=oM;have HX:=za T;clear D T
    go_enter Tryz.func73,Tryz.ntmps73
    go_wp2;generalize w.setCell ⟨R,1,gP⟩ (.int kA ((p:Int)+1))=w1 at *;have H:=T1.out;have I:=T2.out;have J:=T3.out;have a1:IntKind.i64.wrap ((p:Int)*7)=(p:Int)*7:=IntWalk.i64_in _ oM;have a2:IntKind.i64.wrap ((p:Int)*7+3)=(p:Int)*7+3:=IntWalk.i64_in _ oM;have a3:IntKind.i64.wrap ((i:Int)*131)=(i:Int)*131:=IntWalk.i64_in _ oM;have a4:IntKind.i64.wrap ((l:Int)*1117)=(l:Int)*1117:=IntWalk.i64_in _ oM;have a5:IntKind.i64.wrap ((i:Int)*131+(l:Int)*1117)=(i:Int)*131+(l:Int)*1117:=IntWalk.i64_in _ oM;have a6:IntKind.i64.wrap ((p:Int)*29)=(p:Int)*29:=IntWalk.i64_in _ oM;have a7:IntKind.i64.wrap ((i:Int)*131+(l:Int)*1117+(p:Int)*29)=(i:Int)*131+(l:Int)*1117+(p:Int)*29:=IntWalk.i64_in _ oM;have a8:IntKind.i64.wrap ((F:Int)*53)=(F:Int)*53:=IntWalk.i64_in _ oM;have a9:IntKind.i64.wrap ((i:Int)*131+(l:Int)*1117+(p:Int)*29+(F:Int)*53)=(x:Int):=by rw [HX.out];exact IntWalk.i64_in _ oM
    have i1:(Y:Int)<(m:Int):=oM;have i2:(Z:Int)<(m:Int):=oM;have i3:(0:Int)<=(Y:Int):=oM;have i4:(0:Int)<=(Z:Int):=oM
    go_quiet (fail)
    clear a1 a2 a3 a4 a5 a6 a7 a8 a9 H I J;have aC:=E.out;have V:(x:Int)<100000000000:=oM;go_wp2;go_ret;exact⟨y % k,zao d.out.symm,fun _=>by rw [d.out];exact Int.emod_lt_of_pos _ oM,fun h=>oM,q.out,Dr.drewN f _⟩
def zO (l:List ByteArray):List kL:=l.map Value.string
theorem zba (l:List ByteArray):(zO l).length=l.length:=by simp [zO]
theorem Reads.dr {size:Nat}{xs:List kL}(h:Reads w lo hi size A n xs)(hb:Dr R w w')(hR:R<lo):Reads w' lo hi size A n xs:=
 h.frm hb (fun k h1 _ h2=>oM)
def RetNum (R M:Nat) (l:List Int) (w:kJ) (e:Ending) (w':kJ):Prop:=∃ x,x∈l/\e=kP (.int kA x)/\Rd w' R (M+1)/\Dr R w w'
theorem l19Rd_num {l:List Int}(h:Rd w R M)(hM:M<=1000000000)(hL:Reads w lo hi 1 A n (ints l))(hlo:R<lo)(hn:0<n) :
  kQ kN 163 #[kV (gO R),fQ A n c] w (RetNum R M l w):=by
 have g:=hL.len;have d:(1:Int)<=(n:Int):=oM
 go_enter Tryz.func163,Tryz.ntmps163
 go_wp2_with fail
 refine (zJ h hM).mono ?_;rintro e q ⟨k,rfl,a,_,j,f⟩;have i:=a d;have b:k<n:=oM;obtain⟨o,x,rfl,_,_,m,p⟩:=(hL.dr f hlo).int b;clear a;go_wp2_with fail
 go_ret;exact⟨x,dC m.out,rfl,j,f⟩
def Bytes (w:kJ) (A:Option Addr) (n:Nat):Prop:=0<n->∃ g o,A=gO ⟨g,o,gP⟩/\g<w.heap.size/\∀ j,j<n->∃ b:Nat,b<256/\w.cell? ⟨g,o+j,gP⟩=gO (.int .u8 b)
theorem Bytes.ext (h:Bytes w A n)(hb:Ext w w'):Bytes w' A n:=fun h0=>by
 obtain⟨g,o,e,hg,hc⟩:=h h0
 exact⟨g,o,e,eI hg hb.size,fun j hj=>by obtain⟨b,h1,h2⟩:=hc j hj;exact⟨b,h1,hb.aa h2⟩⟩
def RetOpen (w:kJ) (e:Ending) (w':kJ):Prop:=∃ R,e=kP (.pointer (gO ⟨R,0,gP⟩))/\w.heap.size<=R/\Rd w' R 0/\Ext w w'
theorem spec_l19Open (h:Bytes w A n)(hn:n<=9223372036854775807)(hc:n<=c)(hc2:c<=9223372036854775807) :
  kQ kN 48 #[fQ A n c] w (RetOpen w):=by
 by_cases hb:2000<n
 ·obtain⟨g,o,rfl,k,a⟩:=h oM;have d:=za a;clear a h;have f:(2000:Int)<(n:Int):=oM;have i:(2000:Int)<=(c:Int):=oM
  go_enter Tryz.func48,Tryz.ntmps48
  go_wp2;go_ret;refine⟨w.heap.size,rfl,dD _,⟨gO ⟨g,o,gP⟩,2000,c,0,oM,oM,eO _ _ _,fun _=>⟨g,o,rfl,k,fun j hj=>?_⟩⟩,(dB _).alloc _⟩;obtain⟨b,f,i⟩:=d.out j oM;exact⟨b,f,((dB w).alloc _).aa i⟩
 ·have l:=za h;clear h;have f:(n:Int)<=2000:=oM
  go_enter Tryz.func48,Tryz.ntmps48
  go_wp2;go_ret;refine⟨w.heap.size,rfl,dD _,⟨A,n,c,0,oM,oM,eO _ _ _,fun h0=>?_⟩,(dB _).alloc _⟩;obtain⟨g,o,e,k,hc⟩:=l.out h0;exact⟨g,o,e,k,fun j hj=>by obtain⟨b,f,i⟩:=hc j hj;exact⟨b,f,((dB w).alloc _).aa i⟩⟩
def RetStr (L:Nat) (w:kJ) (e:Ending) (w':kJ):Prop:=∃ s:ByteArray,e=kP (.string s)/\s.size<=L/\Ext w w'
theorem zjD (w:kJ) (x:Int):(convert 22 9 (fQ (gO w.heap.size) 1 1)).run kN (w.alloc (.cells #[.int .u8 x] 5))=.ok (.string (strOfNums [x])) (w.alloc (.cells #[.int .u8 x] 5)):=
 run_convert_bytes_arg _ _ 5 Tryz.underlying22 Tryz.underlying5 w.heap.size 0 1 1 [x] rfl (fun i hi=>by
  obtain rfl:i=0:=oM
  rw [(eO w 5 #[.int .u8 x]).cell];rfl) _ Tryz.underlying9
theorem zeZ (x:Int):(strOfNums [x]).size=1:=by simp [strOfNums];rfl
theorem zib {l:Int}(h0:0<=l)(h1:l<6) :
  kQ kN 138 #[l] w (RetStr 1 w):=by
 have a:=zjD w
 go_enter Tryz.func138,Tryz.ntmps138
 go_wp2;go_ret;exact⟨_,rfl,Nat.le_of_eq (zeZ _),(dB _).alloc _⟩
theorem zbW {a:Nat}(ha:a<64) :
  kQ kN 291 #[a] w (RetStr 6 w):=by
 have m:Sm a:=tM;have u:=za (show decide (0<=(a:Int)/\(a:Int)<=63)=kC by simp;omega)
 by_cases h0:a=0
 ·subst h0;rw [show ((0:Nat):Int)=0 from rfl];have g:=za (show decide ((0:Int)<=0/\(0:Int)<=63)=kC by decide)
  go_enter Tryz.func291,Tryz.ntmps291
  go_wp2_with (go_at_call 142;refine (zX _ _).mono ?_;rw [g.out];rintro e D ⟨rfl,rfl⟩)
  go_ret;exact⟨_,rfl,dM,dB _⟩
 ·have r:((a:Int)==0)=kK:=by simp;omega
  go_enter Tryz.func291,Tryz.ntmps291
  go_wp2_with fail
  refine (zX _ _).mono ?_;rw [u.out];rintro e D ⟨rfl,rfl⟩;go_wp2_with fail
  refine (zai a m _).mono ?_;rintro e E ⟨B,d,rfl,c,n⟩;have y:=zB a 6;have h:=za (fun k (p:k∈letters a 6)=>(zeg.1 p).1);have j:=eQ c;clear c;generalize letters a 6=f at *;go_wp2_with fail
  go_loopw [3,5] (fun v i wr=>∃ k:Nat,k<=f.length/\i=.int kA k/\∃ s:ByteArray,v=.string s/\s.size<=k/\Ext E wr) (fun _ i _=>f.length - (intOf i).toNat)
  case atStart=>exact⟨0,dH _,rfl,_,rfl,dD _,dB _⟩
  case round =>
   obtain⟨k,p,rfl,s,rfl,G,b⟩:=hrel
   by_cases hlt:k<f.length
   ·obtain⟨F,l,rfl,_,_,x,z⟩:=(j.ext b).nat hlt;have q:=h.out l (dC x.out);go_wp2_with fail
    refine (zib (l:=(l:Int)) oM oM).mono ?_;rintro e I ⟨t,rfl,H,o⟩;have C:s.size+t.size<=7:=oM;go_wp2_with fail
    go_roundw
    case rel=>exact⟨k+1,oM,gM,_,rfl,by rw [ByteArray.size_append];omega,b.trans o⟩
    case measure=>exact uM
   ·obtain rfl:k=f.length:=oM;go_wp2_with fail
    go_ret;exact⟨s,rfl,oM,n.trans b⟩
def RetAl (w:kJ) (e:Ending) (w':kJ):Prop:=∃ (a:Nat) (ok:Bool),e=kP (.tuple #[a,.bool ok])/\a<64/\Ext w w'
theorem zdw {x:ByteArray}  :
  kQ kN 251 #[x] w (RetAl w):=by
 go_enter Tryz.func251,Tryz.ntmps251
 go_wp2_with fail
 go_loopw [4] (fun i wr=>∃ k:Nat,k<=64/\i=.int kA k/\Ext w wr) (fun i _=>64 - (intOf i).toNat)
 case atStart=>exact⟨0,dH _,rfl,dB _⟩
 case round =>
  obtain⟨k,c,rfl,a⟩:=hrel
  by_cases hlt:k<64
  ·go_wp2_with fail
   refine (zbW hlt).mono ?_;rintro e f ⟨t,rfl,d,b⟩;cases hxt:t.toList==x.toList
   ·go_wp2_with fail
    go_roundw
    case rel=>exact⟨k+1,oM,gM,a.trans b⟩
    case measure=>exact uM
   ·go_wp2_with fail
    go_ret2;exact⟨k,kC,rfl,hlt,a.trans b⟩
  ·obtain rfl:k=64:=oM;go_wp2_with fail
   go_ret2;exact⟨0,kK,rfl,oM,a⟩
theorem zej (hn:n<100) :
  kQ kN 292 #[n] w (RetStr 2 w):=by
 have j:(n:Int)<100:=oM
 go_enter Tryz.func292,Tryz.ntmps292
 go_wp2_with fail
 go_loopw [0,3] (fun n' v wr=>∃ (m:Nat) (s:ByteArray),n'=.int kA m/\v=.string s/\(m<100/\s.size=0\/m<10/\s.size<=1)/\Ext w wr) (fun n' _ _=>(intOf n').toNat)
 case atStart=>exact⟨n,_,rfl,rfl,Or.inl ⟨hn,rfl⟩,dB _⟩
 case round =>
  obtain⟨m,s,rfl,rfl,b,d⟩:=hrel;have g:m<100:=oM;have l:=zjD wr;have k:=zeZ
  by_cases hlt:9<m
  ·have c:s.size=0:=oM;have a:=za (iZ m 10);have h:(9:Int)<(m:Int):=oM;have i:s.size<=1:=oM;have f:=za c;clear b c;go_wp2_with fail
   go_roundw
   case rel=>exact⟨m / 10,_,by rw [a.out];rfl,rfl,Or.inr ⟨oM,by rw [ByteArray.size_append,zeZ,f.out];omega⟩,d.alloc _⟩
   case measure=>exact uM
  ·have h:(m:Int)<=9:=oM;have i:s.size<=1:=oM;clear b;go_wp2_with fail
   go_ret;exact⟨_,rfl,by rw [ByteArray.size_append,zeZ];omega,d.alloc _⟩
end Go.Proofs.YtckbjnndaaoddaaGreatDoor
