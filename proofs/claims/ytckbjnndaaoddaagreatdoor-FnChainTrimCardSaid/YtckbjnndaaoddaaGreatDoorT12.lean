/- The rows of -/
import Derived.Test.YtckbjnndaaoddaaGreatDoorT11
set_option maxHeartbeats 4000000
set_option maxRecDepth 100000
namespace Go.Proofs.YtckbjnndaaoddaaGreatDoor
open Go Go.RowKit
open Blk renaming new->eO
open Ext renaming refl->dB
open Frm renaming ae->fF,setCell->dG
open Int renaming toNat_natCast->eT
open List renaming ext_getElem?->iR,getD_eq_getElem?_getD->dF,getElem?_append_left->dJ,getElem?_append_right->eD,getElem?_eq_getElem->dE,getElem?_eq_none->eJ,getElem?_map->eC,getElem?_of_mem->eN,length_append->eA,length_singleton->eH,map_append->eU,mem_of_getElem?->dC,getElem?_eq_some_iff->kT,mem_append->kY,mem_singleton->lA
open Nat renaming le_of_lt_succ->eW,le_refl->dD,le_trans->dW,lt_of_lt_of_le->eI,lt_or_eq_of_le->eP,lt_or_ge->e7
open Option renaming getD_some->fO,none->gP,some->gO
open Reads renaming af->eQ
open Bool renaming false->kK
open Go renaming Value->kL,World->kJ
open Go.Ending renaming returned->kP
open Go.IntKind renaming i64->kA
open Go.Value renaming agg->kO,bool->kR,slice->fQ,string->kU
open Option.some renaming inj->kS
open _root_.Go.Proofs.Tryz renaming prog->kN
variable {A A':Option Addr}{K N Z b0 base c c' cap g i j k l n n' q size:Nat}{S S1:Nat->Prop}{T:List Nat}{W W1 W2 w:kJ}{a:Aut}{cs rs:List ByteArray}{e:TypeId}{n0:Int}{row v0:kL}{rows xs:List kL}{x:Bool}
def nxC (n:Nat) (nx:Nat->Nat->Int):List kL:=ints ((List.range (n*6)).map fun i=>nx (i / 6) (i % 6))
theorem zcw (n:Nat) (nx:Nat->Nat->Int):(nxC n nx).length=n*6:=by simp [nxC,ints]
theorem zfE {nx:Nat->Nat->Int}(hq:q<n)(hl:l<6):(nxC n nx)[q*6+l]?=gO (.int kA (nx q l)):=by
 unfold nxC ints;rw [eC,eC,List.getElem?_range oM];simp only [Option.map_some];rw [show (q*6+l) / 6=q by omega,show (q*6+l) % 6=l by omega]
theorem nxC_set {nx:Nat->Nat->Int}{v:Int}(hq:q<n)(hl:l<6):(nxC n nx).set (q*6+l) (.int kA v)=nxC n (fun k' l'=>if k'=q/\l'=l then v else nx k' l'):=by
 refine iR fun i=>?_;rw [List.getElem?_set];rw [zcw]
 by_cases hi:i<n*6
 ·obtain⟨a,b,c,rfl⟩:∃ a b,b<6/\i=a*6+b:=⟨i / 6,i % 6,oM,oM⟩;rw [zfE (show a<n by omega) c,zfE (show a<n by omega) c]
  by_cases e:q*6+l=a*6+b
  ·have d:a=q:=oM;have f:b=l:=oM;rw [if_pos e,if_pos oM,if_pos ⟨d,f⟩]
  ·rw [if_neg e,if_neg oM]
 ·rw [eJ (by rw [zcw];omega),eJ (by rw [zcw];omega)]
  by_cases e:q*6+l=i
  ·omega
  ·rw [if_neg e]
theorem nxC_snoc (n:Nat) (nx:Nat->Nat->Int):nxC (n+1) (fun k l=>if k=n then -1 else nx k l)=nxC n nx++[.int kA (-1),.int kA (-1),.int kA (-1),.int kA (-1),.int kA (-1),.int kA (-1)]:=by
 refine iR fun i=>?_
 by_cases hi:i<n*6
 ·obtain⟨a,b,c,rfl⟩:∃ a b,b<6/\i=a*6+b:=⟨i / 6,i % 6,oM,oM⟩;rw [dJ (by rw [zcw];exact hi),zfE (show a<n+1 by omega) c,zfE (show a<n by omega) c,if_neg oM]
 ·rw [eD (by rw [zcw];omega),zcw]
  by_cases h2:i<(n+1)*6
  ·obtain⟨b,c,rfl⟩:∃ b,b<6/\i=n*6+b:=⟨i - n*6,oM,oM⟩;rw [zfE oM c,if_pos rfl,Nat.add_sub_cancel_left];have:∀ b<6,([Value.int kA (-1),.int kA (-1),.int kA (-1),.int kA (-1),.int kA (-1),.int kA (-1)]:List kL)[b]?=gO (.int kA (-1)):=by
    intro b c
    match b,c with
    |0,_=>rfl
    |1,_=>rfl
    |2,_=>rfl
    |3,_=>rfl
    |4,_=>rfl
    |5,_=>rfl
   rw [this b c]
  ·rw [eJ (by rw [zcw];omega),eJ (by simp;omega)]
def stC (Ts:List (List Nat)):List kL:=Ts.flatMap zbu
theorem stC_snoc (Ts:List (List Nat)) (T:List Nat):stC (Ts++[T])=stC Ts++zbu T:=by simp [stC]
theorem zfc (hi:i<T.length):(zbu T)[i]?=gO (.int .u16 (T.getD i 0:Nat)):=by
 unfold zbu;rw [eC,dE hi,dF,dE hi];rfl
theorem stC_get {Ts:List (List Nat)}(h:∀ T∈Ts,T.length=12)  (hT:Ts[k]?=gO T)(hi:i<12):(stC Ts)[k*12+i]?=gO (.int .u16 (T.getD i 0:Nat)):=by
 induction Ts generalizing k with
 |nil=>simp at hT
 |cons U r ih =>
  rw [show stC (U :: r)=zbu U++stC r from rfl];have a:=h U sM;cases k with
  |zero =>
   obtain rfl:U=T:=by simpa using hT
   rw [dJ (by rw [zbZ];omega),Nat.zero_mul,Nat.zero_add,zfc oM]
  |succ k =>
   rw [eD (by rw [zbZ,a];omega),zbZ,a,show (k+1)*12+i - 12=k*12+i by omega];exact ih (fun V hV=>h V (by simp [hV])) (by simpa using hT)
theorem stC_drop {Ts:List (List Nat)}(h:∀ T∈Ts,T.length=12)  (hT:Ts[k]?=gO T):∀ (i:Nat) (u:kL),(zbu T)[i]?=gO u->(stC Ts)[k*12+i]?=gO u:=by
 intro i u hu;have b:=h T (dC hT);have a:i<T.length:=by have:=(kT.1 hu).1;rw [zbZ] at this;exact this
 rw [stC_get h hT oM,<- zfc a,hu]
def unC (p:Aut) (Ts:List (List Nat)):List Bool:=Ts.map (badS p)
theorem unC_snoc (p:Aut) (Ts:List (List Nat)) (T:List Nat):unC p (Ts++[T])=unC p Ts++[badS p T]:=by simp [unC]
def NumI (Ts:List (List Nat)) (M:List Nat->Option Nat):Prop:=∀ (T:List Nat) (j:Nat),M T=gO j↔Ts[j]?=gO T
theorem NumI.nil:NumI [] (fun _=>gP):=fun T j=>sM
theorem NumI.add {Ts:List (List Nat)}{M:List Nat->Option Nat}(h:NumI Ts M) (hT:M T=gP):NumI (Ts++[T]) (ziv M T Ts.length):=by
 have a:∀ i,Ts[i]?≠gO T:=fun i e=>by rw [(h T i).2 e] at hT;cases hT
 intro U j;rcases e7 j Ts.length with hj|hj
 ·rw [dJ hj]
  by_cases e:U=T
  ·subst e;rw [zcH];exact⟨fun h1=>by have:=kS h1;omega,fun h1=>absurd h1 (a j)⟩
  ·rw [zdh M _ e];exact h U j
 ·by_cases e:U=T
  ·subst e;rw [zcH];constructor
   ·intro h1;obtain rfl:=kS h1;simp
   ·intro h1;have:=(kT.1 h1).1;simp at this;rw [show j=Ts.length by omega]
  ·rw [zdh M _ e,h U j,eJ hj];constructor
   ·intro h1;cases h1
   ·intro h1;have b:=(kT.1 h1).1;simp at b;obtain rfl:j=Ts.length:=oM;simp at h1;exact absurd h1.symm e
structure Sfx where
 s:Sys
 p:Aut
 L:Nat
 A:Option Addr
 n:Nat
 c:Nat
 B:Option Addr
 m:Nat
 d:Nat
 B':Option Addr
 m':Nat
 d':Nat
 mv:Nat
 RA:Option Addr
 rc:Nat
 HA:Option Addr
 hc:Nat
 G:Nat
 mb:Nat
 b0:Nat
 lo:Nat
 w9:kJ
def hidS (s:Sys) (L:Nat):List Nat:=letters (diff s.al.toNat L) 6
def sfC (F:Sfx) (vs vn vu:kL):Array kL:=
 #[F.s.al,F.s.st,fQ F.A F.n F.c,F.p.al,fQ F.B F.m F.d,fQ F.B' F.m' F.d',F.L,.pointer (gO ⟨F.mv,0,gP⟩),fQ F.RA F.p.next.length F.rc,.slice F.HA (hidS F.s F.L).length F.hc,vs,.map (gO F.mb),vn,vu]
abbrev Sfx.two (F:Sfx) (k:Nat):Prop:=k=F.G\/k=F.mb\/(F.lo<=k/\k<F.b0)
structure SfR (F:Sfx) (W:kJ):Prop where
 tab:Tab W
 mov:MovAt W F.mv F.s.edges
 rule:∃ lo hi,TbAt W lo hi F.RA F.p
 hid:∃ lo hi,Lst zbA W lo hi F.HA (hidS F.s F.L)
 acc:∃ lo hi,Reads W lo hi 1 F.B' F.m' (zae F.p.acc)
structure ziP (F:Sfx):Prop where
 hs:zk F.s=true
 hp:zj F.p=true
 hL:F.L<64
 red:∀ W,Frm F.two F.w9 W->SfR F W
 lob:F.lo<=F.b0
 b0G:F.b0<=F.G
 Gw:F.G<F.w9.heap.size
 b0m:F.b0<=F.mb
 mw:F.mb<F.w9.heap.size
 ne:F.mb≠F.G
structure zfh (F:Sfx) (Ts:List (List Nat)) (nx:Nat->Nat->Int) (k:Nat) (M:List Nat->Option Nat) (vs vn vu:kL) (W:kJ):Prop where
 frm:Frm F.two F.w9 W
 blk:Blk W F.G 152 (sfC F vs vn vu)
 sets:W.ownsRow F.w9.heap.size 222 12 vs Ts.length (stC Ts)
 next:W.ownsRow F.w9.heap.size 166 6 vn Ts.length (nxC Ts.length nx)
 uns:W.ownsRow F.w9.heap.size 4 1 vu Ts.length (zae (unC F.p Ts))
 map:zdI 222 litP domP W F.mb k M
 num:NumI Ts M
 le:k<=Ts.length
 ws:∀ T∈Ts,T.length=12
def sfS (F:Sfx) (vs vn vu:kL) (k:Nat):Prop:=(F.b0<=k/\k<F.w9.heap.size)\/vs.ownBlock=gO k\/vn.ownBlock=gO k\/vu.ownBlock=gO k
section
variable {F:Sfx}{Ts:List (List Nat)}{nx:Nat->Nat->Int}{k:Nat}{M:List Nat->Option Nat}{vs vn vu:kL}{W W':kJ}
theorem zfh.red (h:zfh F Ts nx k M vs vn vu W)(hF:ziP F):SfR F W:=hF.red W h.frm
theorem zfh.frmT {T:Nat->Prop}(h:zfh F Ts nx k M vs vn vu W)(hF:ziP F)(hf:Frm T W W')(hT:∀ j,j<W.heap.size->T j->F.lo<=j/\¬ sfS F vs vn vu j):zfh F Ts nx k M vs vn vu W':=by
 have g:=h.frm.size;have a:∀ {b:Nat},b<W.heap.size->sfS F vs vn vu b->¬ T b:=fun hb hs ht=>(hT _ hb ht).2 hs;refine⟨⟨hf.os.trans h.frm.os,hf.tape.trans h.frm.tape,hf.output.trans h.frm.output,dW g hf.size,fun j hj hn=>?_⟩,h.blk.frm hf (a h.blk.lt (.inl ⟨hF.b0G,hF.Gw⟩)),zf h.sets hf (fun b hb=>a (h.sets.lt b hb).2 (.inr (.inl hb))),
  zf h.next hf (fun b hb=>a (h.next.lt b hb).2 (.inr (.inr (.inl hb)))),zf h.uns hf (fun b hb=>a (h.uns.lt b hb).2 (.inr (.inr (.inr hb)))),h.map.frm hf (a h.map.lt (.inl ⟨hF.b0m,hF.mw⟩)),h.num,h.le,h.ws⟩
 refine (hf.block j oM (fun ht=>?_)).trans (h.frm.block j hj hn);obtain⟨d,f⟩:=hT j oM ht;rcases e7 j F.b0 with c|c
 ·exact hn (.inr (.inr ⟨d,c⟩))
 ·exact f (.inl ⟨c,hj⟩)
theorem zfh.ext (h:zfh F Ts nx k M vs vn vu W)(hF:ziP F)(hx:Ext W W'):zfh F Ts nx k M vs vn vu W':=h.frmT hF hx (fun _ _ h=>h.elim)
theorem zfh.lt (h:zfh F Ts nx k M vs vn vu W) (hj:sfS F vs vn vu j):j<W.heap.size:=by
 have a:=h.frm.size;rcases hj with hj|hj|hj|hj
 ·omega
 ·exact (h.sets.lt j hj).2
 ·exact (h.next.lt j hj).2
 ·exact (h.uns.lt j hj).2
theorem zfh.low0 (h:zfh F Ts nx k M vs vn vu W)(hF:ziP F) (hj:sfS F vs vn vu j):F.b0<=j:=by
 have a:=hF.b0G;have b:=hF.Gw;rcases hj with hj|hj|hj|hj
 ·exact hj.1
 ·have:=(h.sets.lt j hj).1;omega
 ·have:=(h.next.lt j hj).1;omega
 ·have:=(h.uns.lt j hj).1;omega
theorem zfh.low (h:zfh F Ts nx k M vs vn vu W)(hF:ziP F) (hj:sfS F vs vn vu j):F.lo<=j:=dW hF.lob (h.low0 hF hj)
end
structure Kq (S:Nat->Prop) (W W':kJ) (S':Nat->Prop):Prop where
 frm:Frm S W W'
 new:∀ q,S' q->S q\/W.heap.size<=q
theorem Kq.refl :Kq S W W S:=⟨Frm.refl _ _,fun _ h=>.inl h⟩
theorem Kq.trans {S2:Nat->Prop}(h:Kq S W W1 S1) (k:Kq S1 W1 W2 S2):Kq S W W2 S2:=by
 refine⟨⟨k.frm.os.trans h.frm.os,k.frm.tape.trans h.frm.tape,k.frm.output.trans h.frm.output,dW h.frm.size k.frm.size,fun i hi hn=>?_⟩,fun i hi=>?_⟩
 ·refine (k.frm.block i (eI hi h.frm.size) (fun a=>?_)).trans (h.frm.block i hi hn);rcases h.new i a with b|b
  ·exact hn b
  ·omega
 ·rcases k.new i hi with a|a
  ·exact h.new i a
  ·exact .inr (dW h.frm.size a)
theorem Kq.ext (h:Kq S W W1 S1)(hx:Ext W1 W2):Kq S W W2 S1:=⟨h.frm.ext hx,h.new⟩
theorem Kq.back (hx:Ext W W1) (k:Kq S W1 W2 S1):Kq S W W2 S1:=
 ⟨⟨k.frm.os.trans hx.os,k.frm.tape.trans hx.tape,k.frm.output.trans hx.output,dW hx.size k.frm.size,fun i hi hn=>(k.frm.block i (eI hi hx.size) hn).trans (hx.block i hi (fun h=>h))⟩,fun i hi=>by
  rcases k.new i hi with h|h
  ·exact .inl h
  ·exact .inr (dW hx.size h)⟩
structure ziu (F:Sfx) (Ts:List (List Nat)) (n:Nat) (nx:Nat->Nat->Int) (us:List Bool) (k:Nat) (M:List Nat->Option Nat) (vs vn vu:kL) (W:kJ):Prop where
 frm:Frm F.two F.w9 W
 blk:Blk W F.G 152 (sfC F vs vn vu)
 sets:W.ownsRow F.w9.heap.size 222 12 vs Ts.length (stC Ts)
 next:W.ownsRow F.w9.heap.size 166 6 vn n (nxC n nx)
 uns:W.ownsRow F.w9.heap.size 4 1 vu us.length (zae us)
 map:zdI 222 litP domP W F.mb k M
section
variable {F:Sfx}{Ts:List (List Nat)}{n:Nat}{nx:Nat->Nat->Int}{us:List Bool}{k:Nat}{M:List Nat->Option Nat}{vs vn vu:kL}{W W':kJ}
theorem zfh.p (h:zfh F Ts nx k M vs vn vu W):ziu F Ts Ts.length nx (unC F.p Ts) k M vs vn vu W:=
 ⟨h.frm,h.blk,h.sets,h.next,by rw [show (unC F.p Ts).length=Ts.length by simp [unC]];exact h.uns,h.map⟩
theorem ziu.m (h:ziu F Ts Ts.length nx (unC F.p Ts) k M vs vn vu W)(hn:NumI Ts M)(hk:k<=Ts.length)(hw:∀ T∈Ts,T.length=12):zfh F Ts nx k M vs vn vu W:=
 ⟨h.frm,h.blk,h.sets,h.next,by have:=h.uns;rwa [show (unC F.p Ts).length=Ts.length by simp [unC]] at this,h.map,hn,hk,hw⟩
theorem ziu.ext (h:ziu F Ts n nx us k M vs vn vu W)(hx:Ext W W'):ziu F Ts n nx us k M vs vn vu W':=
 ⟨⟨hx.os.trans h.frm.os,hx.tape.trans h.frm.tape,hx.output.trans h.frm.output,dW h.frm.size hx.size,fun j hj hn=>(hx.block j (eI hj h.frm.size) (fun h=>h)).trans (h.frm.block j hj hn)⟩,h.blk.ext hx,zh h.sets hx,zh h.next hx,zh h.uns hx,h.map.ext hx⟩
theorem ziu.bf {T:Nat->Prop}(h:ziu F Ts n nx us k M vs vn vu W)(hf:Frm T W W')(hT:∀ q,T q->F.two q\/F.w9.heap.size<=q):Frm F.two F.w9 W':=
 ⟨hf.os.trans h.frm.os,hf.tape.trans h.frm.tape,hf.output.trans h.frm.output,dW h.frm.size hf.size,fun j hj hn=>(hf.block j (eI hj h.frm.size) (fun ht=>by
  rcases hT j ht with h1|h1
  ·exact hn h1
  ·omega)).trans (h.frm.block j hj hn)⟩
theorem ziu.mapSet {M':List Nat->Option Nat}{k':Nat}(h:ziu F Ts n nx us k M vs vn vu W)(hF:ziP F)(hmap:zdI 222 litP domP W' F.mb k' M')(hg:W.grownBy W' (gO F.mb)) :
  ziu F Ts n nx us k' M' vs vn vu W'/\Kq (sfS F vs vn vu) W W' (sfS F vs vn vu):=by
 have c:Frm (fun q=>q=F.mb) W W':=(fF hg).mono (fun q _ e=>(kS e).symm);have a:F.G≠F.mb:=fun e=>hF.ne e.symm;refine⟨⟨h.bf c (fun q e=>.inl (.inr (.inl e))),h.blk.frm c a,zf h.sets c (fun b a e=>by subst e;exact h.map.aj h.sets a),zf h.next c (fun b a e=>by subst e;exact h.map.aj h.next a),zf h.uns c (fun b a e=>by subst e;exact h.map.aj h.uns a),hmap⟩,
  c.mono (fun q _ e=>.inl (by subst e;exact⟨hF.b0m,hF.mw⟩)),fun q hq=>.inl hq⟩
theorem sfC_10 (v:kL):(sfC F vs vn vu).setIfInBounds 10 v=sfC F v vn vu:=by simp [sfC]
theorem sfC_12 (v:kL):(sfC F vs vn vu).setIfInBounds 12 v=sfC F vs v vu:=by simp [sfC]
theorem sfC_13 (v:kL):(sfC F vs vn vu).setIfInBounds 13 v=sfC F vs vn v:=by simp [sfC]
theorem zfr (h:(fQ (gO g) n cap).ownBlock=gO q):q=g:=by simpa [Value.ownBlock] using h.symm
theorem yT12a2 {P:Prop}(h:P:=by
 exact⟨hs.os.trans h5.os,hs.tape.trans h5.tape,hs.output.trans h5.output,Nat.le_trans h5.size hs.size,fun j hj hn=>(hs.block j (Nat.lt_of_lt_of_le hj h5.size) (fun e=>hn (.inl e))).trans (h5.block j hj hn)⟩
 ):P:=h
theorem ziu.pushS {U:List Nat}(h:ziu F Ts n nx us k M vs vn vu W)(hF:ziP F) (zkr:W'.ownsRow F.w9.heap.size 222 12 (fQ (gO g) (Ts.length+1) cap) (Ts.length+1) (stC Ts++zbu U))(hg:W.grownBy W' vs.ownBlock)(hat:vs.ownBlock=gO g\/g=W.heap.size+1) :
  Blk W' F.G 152 (sfC F vs vn vu)/\ziu F (Ts++[U]) n nx us k M (fQ (gO g) (Ts.length+1) cap) vn vu (W'.setCell ⟨F.G,10,gP⟩ (fQ (gO g) (Ts.length+1) cap)) /\
  Kq (sfS F vs vn vu) W (W'.setCell ⟨F.G,10,gP⟩ (fQ (gO g) (Ts.length+1) cap)) (sfS F (fQ (gO g) (Ts.length+1) cap) vn vu):=by
 have c:Frm (fun q=>vs.ownBlock=gO q) W W':=fF hg;have d:=h.blk.frm c (fun e=>zN h.sets h.blk dM e rfl);have f:W'.ownsRow F.w9.heap.size 222 12 (fQ (gO g) (Ts.length+1) cap) (Ts++[U]).length (stC (Ts++[U])):=by rw [eA,eH,stC_snoc];exact zkr
 have i:=zf h.next c (fun b hb e=>zan h.next h.sets dM hb e);have j:=zf h.uns c (fun b hb e=>zan h.uns h.sets dM hb e);have l:=h.map.frm c (fun e=>h.map.aj h.sets e);have h5:=h.bf c (fun q e=>.inr (h.sets.lt q e).1);have hs:=dG W' F.G 10 (fQ (gO g) (Ts.length+1) cap);refine⟨d,⟨?_,by rw [<- sfC_10 (vs:=vs)];exact d.ab 10 _,zf f hs (fun b hb e=>zN f d dM hb e),zf i hs (fun b hb e=>zN i d dM hb e),zf j hs (fun b hb e=>zN j d dM hb e),l.frm hs hF.ne⟩,⟨?_,fun q a=>?_⟩⟩
 ·exact yT12a2
 ·exact (c.mono (fun q _ e=>.inr (.inl e))).trans (hs.mono (fun q _ e=>.inl (by subst e;exact⟨hF.b0G,hF.Gw⟩)))
 ·rcases a with a|a|a|a
  ·exact .inl (.inl a)
  ·obtain rfl:=zfr a;rcases hat with e|e
   ·exact .inl (.inr (.inl e))
   ·exact .inr oM
  ·exact .inl (.inr (.inr (.inl a)))
  ·exact .inl (.inr (.inr (.inr a)))
theorem ziu.pushN (h:ziu F Ts n nx us k M vs vn vu W)(hF:ziP F) (zkr:W'.ownsRow F.w9.heap.size 166 6 (fQ (gO g) (n+1) cap) (n+1) (nxC n nx++[.int kA (-1),.int kA (-1),.int kA (-1),.int kA (-1),.int kA (-1),.int kA (-1)]))(hg:W.grownBy W' vn.ownBlock)(hat:vn.ownBlock=gO g\/g=W.heap.size+1) :
  Blk W' F.G 152 (sfC F vs vn vu)/\ziu F Ts (n+1) (fun k l=>if k=n then -1 else nx k l) us k M vs (fQ (gO g) (n+1) cap) vu (W'.setCell ⟨F.G,12,gP⟩ (fQ (gO g) (n+1) cap)) /\
  Kq (sfS F vs vn vu) W (W'.setCell ⟨F.G,12,gP⟩ (fQ (gO g) (n+1) cap)) (sfS F vs (fQ (gO g) (n+1) cap) vu):=by
 have c:Frm (fun q=>vn.ownBlock=gO q) W W':=fF hg;have d:=h.blk.frm c (fun e=>zN h.next h.blk dM e rfl);have i:W'.ownsRow F.w9.heap.size 166 6 (fQ (gO g) (n+1) cap) (n+1) (nxC (n+1) (fun k l=>if k=n then -1 else nx k l)):=by rw [nxC_snoc];exact zkr
 have f:=zf h.sets c (fun b hb e=>zan h.sets h.next dM hb e);have j:=zf h.uns c (fun b hb e=>zan h.uns h.next dM hb e);have m:=h.map.frm c (fun e=>h.map.aj h.next e);have h5:=h.bf c (fun q e=>.inr (h.next.lt q e).1);have hs:=dG W' F.G 12 (fQ (gO g) (n+1) cap);refine⟨d,⟨?_,by rw [<- sfC_12 (vn:=vn)];exact d.ab 12 _,zf f hs (fun b hb e=>zN f d dM hb e),zf i hs (fun b hb e=>zN i d dM hb e),zf j hs (fun b hb e=>zN j d dM hb e),m.frm hs hF.ne⟩,⟨?_,fun q a=>?_⟩⟩
 ·exact yT12a2
 ·exact (c.mono (fun q _ e=>.inr (.inr (.inl e)))).trans (hs.mono (fun q _ e=>.inl (by subst e;exact⟨hF.b0G,hF.Gw⟩)))
 ·rcases a with a|a|a|a
  ·exact .inl (.inl a)
  ·exact .inl (.inr (.inl a))
  ·obtain rfl:=zfr a;rcases hat with e|e
   ·exact .inl (.inr (.inr (.inl e)))
   ·exact .inr oM
  ·exact .inl (.inr (.inr (.inr a)))
theorem ziu.pushU (h:ziu F Ts n nx us k M vs vn vu W)(hF:ziP F) (zkr:W'.ownsRow F.w9.heap.size 4 1 (fQ (gO g) (us.length+1) cap) (us.length+1) (zae us++[.bool x]))(hg:W.grownBy W' vu.ownBlock)(hat:vu.ownBlock=gO g\/g=W.heap.size+1) :
  Blk W' F.G 152 (sfC F vs vn vu)/\ziu F Ts n nx (us++[x]) k M vs vn (fQ (gO g) (us.length+1) cap) (W'.setCell ⟨F.G,13,gP⟩ (fQ (gO g) (us.length+1) cap)) /\
  Kq (sfS F vs vn vu) W (W'.setCell ⟨F.G,13,gP⟩ (fQ (gO g) (us.length+1) cap)) (sfS F vs vn (fQ (gO g) (us.length+1) cap)):=by
 have c:Frm (fun q=>vu.ownBlock=gO q) W W':=fF hg;have d:=h.blk.frm c (fun e=>zN h.uns h.blk dM e rfl);have j:W'.ownsRow F.w9.heap.size 4 1 (fQ (gO g) (us.length+1) cap) (us++[x]).length (zae (us++[x])):=by
  rw [eA,eH,zae,eU];exact zkr
 have f:=zf h.sets c (fun b hb e=>zan h.sets h.uns dM hb e);have i:=zf h.next c (fun b hb e=>zan h.next h.uns dM hb e);have l:=h.map.frm c (fun e=>h.map.aj h.uns e);have h5:=h.bf c (fun q e=>.inr (h.uns.lt q e).1);have hs:=dG W' F.G 13 (fQ (gO g) (us.length+1) cap);refine⟨d,⟨?_,by rw [<- sfC_13 (vu:=vu)];exact d.ab 13 _,zf f hs (fun b hb e=>zN f d dM hb e),zf i hs (fun b hb e=>zN i d dM hb e),zf j hs (fun b hb e=>zN j d dM hb e),l.frm hs hF.ne⟩,⟨?_,fun q a=>?_⟩⟩
 ·exact yT12a2
 ·exact (c.mono (fun q _ e=>.inr (.inr (.inr e)))).trans (hs.mono (fun q _ e=>.inl (by subst e;exact⟨hF.b0G,hF.Gw⟩)))
 ·rcases a with a|a|a|a
  ·exact .inl (.inl a)
  ·exact .inl (.inr (.inl a))
  ·exact .inl (.inr (.inr (.inl a)))
  ·obtain rfl:=zfr a;rcases hat with e|e
   ·exact .inl (.inr (.inr (.inr e)))
   ·exact .inr oM
end
theorem zds {b:Nat}{v:kL}(h:w.ownsRow c e size v n xs)(hb:b<=c):w.ownsRow b e size v n xs:=by
 refine⟨h.1,?_⟩;rcases h.2 with f|⟨g,a,d,j,i,r⟩
 ·exact .inl f
 ·exact .inr ⟨g,a,d,j,dW hb i,r⟩
def RetTO (J:zbs) (o:Option (List ByteArray × List ByteArray)) (B:Nat) (S:Nat->Prop) (W:kJ) (e:Ending) (W':kJ):Prop:=
 ∃ S',Kp J B S W W' S'/\((o=gP/\e=kP (.tuple #[kO #[(),()],kR kK])) \/
  ∃ (rs cs:List ByteArray) (R C:Option Addr) (cr cc:Nat),o=gO (rs,cs)/\e=kP (.tuple #[kO #[fQ R rs.length cr,fQ C cs.length cc],kR true])/\zhi W' S' W.heap.size R rs.length cr C cs.length cc rs cs)
structure TabB (W:kJ) (S:Nat->Prop) (base g:Nat) (R:Option Addr) (cr:Nat) (C:Option Addr) (cc:Nat) (rs cs:List ByteArray):Prop where
 blk:Blk W g 90 #[fQ R rs.length cr,fQ C cs.length cc]
 tab:zhi W S base R rs.length cr C cs.length cc rs cs
 far:¬ S g
 dis:∀ q,(fQ R rs.length cr).ownBlock=gO q->(fQ C cs.length cc).ownBlock≠gO q
section
variable {J:zbs}{B b0 L base nr cr nc cc kn:Nat}{S S':Nat->Prop}{W W':kJ}{R C:Option Addr}{rows cols:List ByteArray}{f:ByteArray->Bool}{rc:kL}
theorem TabB.kp (h:TabB W S base g R cr C cc rs cs) (k:Kp J B S W W' S'):TabB W' S' base g R cr C cc rs cs:=⟨(k.blk h.blk h.far).1,h.tab.kp k,(k.blk h.blk h.far).2,h.dis⟩
theorem zfy {w1 W5:kJ}{b2 b5:Nat}{R6 C6:Option Addr}{cr6 cc6:Nat}(hS:Hid (∀ q,w1.heap.size<=q->¬ S q))(hlen:rows.length=nr/\cols.length=nc)(hb:Blk W5 g 90 #[(),()])
  (h2:W5.ownsRow b2 9 1 (fQ R6 nr cr6) nr (zO rows)) (h5:W5.ownsRow b5 9 1 (fQ C6 nc cc6) nc (zO cols)) (hdis:∀ q,(fQ R6 nr cr6).ownBlock=gO q->(fQ C6 nc cc6).ownBlock≠gO q) (hx:Ext w1 W5) (hg:w1.heap.size<=g) (hb2:w1.heap.size<=b2) (hb5:w1.heap.size<=b5) :
  Ext w1 ((W5.setCell g (fQ R6 nr cr6)).setCell ⟨g,1,gP⟩ (fQ C6 nc cc6))/\TabB ((W5.setCell g (fQ R6 nr cr6)).setCell ⟨g,1,gP⟩ (fQ C6 nc cc6)) S w1.heap.size g R6 cr6 C6 cc6 rows cols:=by
 obtain⟨rfl,rfl⟩:=hlen;have d:=(dG W5 g 0 (fQ R6 rows.length cr6)).trans (dG _ g 1 (fQ C6 cols.length cc6));have a:=zds h2 hb2;have c:=zds h5 hb5;refine⟨hx.frm d (fun q hq e=>by have f:q=g:=e;omega),⟨by simpa using (hb.ab 0 (fQ R6 rows.length cr6)).ab 1 (fQ C6 cols.length cc6),⟨⟨zf a d (fun b hb' e=>zN a hb dM hb' e),fun b hb'=>hS.out b (a.lt b hb').1⟩,⟨zf c d (fun b hb' e=>zN c hb dM hb' e),fun b hb'=>hS.out b (c.lt b hb').1⟩⟩,hS.out g hg,hdis⟩⟩
theorem zjn (l:List ByteArray) (x:ByteArray):zO (l++[x])=zO l++[.string x]:=by simp [zO]
theorem TabB.push {g8 cap8:Nat}{x:ByteArray}(h:TabB W S base g R cr C cc rs cs)(hfr:∀ q,W.heap.size<=q->¬ S q) (zkr:W'.ownsRow base 9 1 (fQ (gO g8) (rs.length+1) cap8) (rs.length+1) (zO rs++[.string x]))
  (hg:W.grownBy W' (fQ R rs.length cr).ownBlock) (hat:(fQ R rs.length cr).ownBlock=gO g8\/g8=W.heap.size+1) :
  Blk W' g 90 #[fQ R rs.length cr,fQ C cs.length cc]/\TabB (W'.setCell g (fQ (gO g8) (rs.length+1) cap8)) S base g (gO ⟨g8,0,gP⟩) cap8 C cc (rs++[x]) cs:=by
 have f:Frm (fun q=>(fQ R rs.length cr).ownBlock=gO q) W W':=fF hg;have a:=h.blk.frm f (fun e=>zN h.tab.r.own h.blk dM e rfl);have d:=zf h.tab.c.own f (fun b hb e=>h.dis b e hb);have hs:=dG W' g 0 (fQ (gO g8) (rs.length+1) cap8);have i:(rs++[x]).length=rs.length+1:=sM;have j:¬ S g8:=by
  rcases hat with e|e
  ·exact h.tab.r.far g8 e
  ·exact hfr g8 oM
 refine⟨a,⟨by rw [i];simpa using a.ab 0 (fQ (gO g8) (rs.length+1) cap8),⟨⟨?_,fun b hb=>by obtain rfl:=zfr hb;exact j⟩,⟨zf d hs (fun b hb e=>zN d a dM hb e),h.tab.c.far⟩⟩,h.far,fun q hq=>?_⟩⟩
 ·rw [i,zjn];exact zf zkr hs (fun b hb e=>zN zkr a dM hb e)
 ·obtain rfl:=zfr hq;rcases hat with e|e
  ·exact h.dis _ e
  ·intro hc;have:=(h.tab.c.own.lt _ hc).2;omega
theorem zfT {w5:kJ}{S5:Nat->Prop}{R1 C1:Option Addr}{cr1 cc1:Nat}{u0 u1:kL}(hJ:zbs.Ok b0 J)(hk:Kp J B S W w5 S5)(hT:zhi w5 S5 base R1 rs.length cr1 C1 cs.length cc1 rs cs)(hb:Blk w5 Z 90 #[u0,u1])(hZ:¬ S5 Z)(hWZ:W.heap.size<=Z)(hbZ:b0<=Z)(hWb:W.heap.size<=base) :
  Blk ((w5.setCell Z (fQ R1 rs.length cr1)).setCell ⟨Z,1,gP⟩ (fQ C1 cs.length cc1)) Z 90 #[fQ R1 rs.length cr1,fQ C1 cs.length cc1] /\
  Kp J B S W ((w5.setCell Z (fQ R1 rs.length cr1)).setCell ⟨Z,1,gP⟩ (fQ C1 cs.length cc1)) S5/\zhi ((w5.setCell Z (fQ R1 rs.length cr1)).setCell ⟨Z,1,gP⟩ (fQ C1 cs.length cc1)) S5 W.heap.size R1 rs.length cr1 C1 cs.length cc1 rs cs:=by
 have a:=(dG w5 Z 0 (fQ R1 rs.length cr1)).trans (dG _ Z 1 (fQ C1 cs.length cc1));refine⟨by simpa using (hb.ab 0 (fQ R1 rs.length cr1)).ab 1 (fQ C1 cs.length cc1),hk.own hJ a (fun q _ e=>by have d:q=Z:=e;rw [d];exact⟨hWZ,hbZ,hZ⟩),
  ⟨⟨zds (zf hT.r.own a (fun b hb' e=>zN hT.r.own hb dM hb' e)) hWb,hT.r.far⟩,⟨zds (zf hT.c.own a (fun b hb' e=>zN hT.c.own hb dM hb' e)) hWb,hT.c.far⟩⟩⟩
theorem yT12a1 {P:Prop}(h:P:=by
 refine hK.out _ _ hxw5 ?_;refine pT ?_;refine uQ ?_;have c7:=hb7.cell;have f7:=hb7.frozen;refine zb fun K hK=>?_;go_simp;refine hK.out _ _ ?_;refine pT ?_;refine zg ?_;have zku:=zfy (S:=S) hwS1 hlr.out hb7 ho2 ho5 hdis hxw5 hg7 oM oM;go_wp2_with fail
 go_meet;exact⟨g7,R6,C6,cr6,cc6,rfl,hg7,zku.1,zku.2⟩
 ):P:=h
theorem zgg (hO:zfM b0 L f J kn rc)(hj:J B W S)(hB:B+21840<10000000)(hT:zhi W S base R nr cr C nc cc rows cols)(hI:zcg L f rows cols)(hb0:b0<=W.heap.size)(hL:L<64) :
  Calls kN 123 #[orcV L kn rc,kO #[fQ R nr cr,fQ C nc cc]] W (RetTO J ((zac L f cols (12 - rows.length) rows).map fun r=>(r,cols)) (B+21840) S W):=by
 have H:=za hO;have HI:=za hI;have hlr:=za hT.lens;have aa:=za hI.r12;have ap:=za hI.c20;have T:Ext W (((W.alloc (.cells #[(L:Int),.func (.func kn) #[rc] #[]] 83)).alloc (.cells #[fQ R nr cr,fQ C nc cc] 90)).alloc (.cells #[(),()] 90)):=(((dB _).alloc _).alloc _).alloc _;obtain⟨b2,b3,b4⟩:=zaa (dB (((W.alloc (.cells #[(L:Int),.func (.func kn) #[rc] #[]] 83)).alloc (.cells #[fQ R nr cr,fQ C nc cc] 90)).alloc (.cells #[(),()] 90)));have ad:=za (fun (q:Nat) (hq:W.heap.size<=q)=>zbs.fresh hO.ok hj hq);have ae:=hO.ok.keep hj T (fun _ _ h=>h.elim);have M:=za (hT.ext T);have aw:W.heap.size<(((W.alloc (.cells #[(L:Int),.func (.func kn) #[rc] #[]] 83)).alloc (.cells #[fQ R nr cr,fQ C nc cc] 90)).alloc (.cells #[(),()] 90)).heap.size/\W.heap.size+1+1<(((W.alloc (.cells #[(L:Int),.func (.func kn) #[rc] #[]] 83)).alloc (.cells #[fQ R nr cr,fQ C nc cc] 90)).alloc (.cells #[(),()] 90)).heap.size:=by simp;omega
 clear hO hI hT
 go_enter Tryz.func123,Tryz.ntmps123
 go_upto_region 1 with fail
 generalize ((W.alloc _).alloc _).alloc _=Q at *;have hwS1:=za (fun (q:Nat) (hq:Q.heap.size<=q)=>zbs.fresh H.out.ok ae hq)
 go_cut [6] (fun v6 wx=>∃ (g:Nat) (R6 C6:Option Addr) (cr6 cc6:Nat),v6=.pointer (gO g)/\Q.heap.size<=g/\Ext Q wx/\TabB wx S Q.heap.size g R6 cr6 C6 cc6 rows cols)
 case first =>
  have CT:∀ X,Ext Q X->∀ q,X.cell? ⟨W.heap.size+1,q,gP⟩=#[fQ R nr cr,fQ C nc cc][q]?:=fun X hX=>(b3.ext hX).cell;have aK:=dB Q;have a1:nr<=12:=by have:=hlr.out.1;have:=aa.out;omega
  have a0:nc<=20:=by have:=hlr.out.2;have:=ap.out;omega
  refine uR (fun X=>Ext Q X) [5,8] (zx.app [0,1,3,4] (zx.two 2 (zx.two 5 (zx.of [6,7,8]) 7 (zx.of [5,6,8])) 7 (zx.of [2,5,6,8]))) ?_;refine uQ ?_;have z:=aK.drew;generalize Q.drew=wd at *;refine zm (fun K hK=>?_) (fun K hK=>?_)
  ·go_simp;refine (zbG (eQ (zh M.out.r.own z)) oM).mono ?_;rintro e w2 ⟨v2,rfl,ho2,U⟩;have k:=z.trans U;obtain⟨R6,cr6,rfl⟩:=zi ho2;have aw:=z.size;refine hK.out _ _ k ?_;refine pT ?_;refine uQ ?_;refine zm (fun K hK=>?_) (fun K hK=>?_)
   ·go_simp;refine (zbG (eQ (zh M.out.c.own k)) oM).mono ?_;rintro e E ⟨v5,rfl,ho5,p⟩;have hxw5:=k.trans p;obtain⟨C6,cc6,rfl⟩:=zi ho5;have ax:=k.size;have hdis:∀ q,(fQ R6 nr cr6).ownBlock=gO q->(fQ C6 nc cc6).ownBlock≠gO q:=fun q h1 h2=>by have:=(ho2.lt q h1).2;have:=(ho5.lt q h2).1;omega
    replace ho2:=zh ho2 p;refine hK.out _ _ hxw5 ?_;refine pT ?_;refine uQ ?_;refine ze fun K hK=>?_;go_simp;have hb7:=eO E 90 #[(),()];have D:Ext E (E.alloc (.cells #[(),()] 90)):=(dB _).alloc _;have b:=hxw5.trans D;have hg7:=hxw5.size;replace ho2:=zh ho2 D;replace ho5:=zh ho5 D;refine hK.out _ _ b ?_;obtain⟨g7,u⟩:∃ g,Hid (g=E.heap.size):=⟨_,za rfl⟩;rw [<- u.out] at hb7 hg7 ⊢;generalize E.alloc _=w7 at *;refine pT ?_;refine uQ ?_;have c7:=hb7.cell;have f7:=hb7.frozen;refine zb fun K hK=>?_;go_simp;refine hK.out _ _ ?_;refine pT ?_;refine zg ?_;have zku:=zfy (S:=S) hwS1 hlr.out hb7 ho2 ho5 hdis b hg7 oM oM;go_wp2_with fail
    go_meet;exact⟨g7,R6,C6,cr6,cc6,rfl,hg7,zku.1,zku.2⟩
   ·go_simp;have hb7:=eO w2 90 #[(),()];have D:Ext w2 (w2.alloc (.cells #[(),()] 90)):=(dB _).alloc _;have b:=k.trans D;have hg7:=k.size;replace ho2:=zh ho2 D;refine hK.out _ _ b ?_;obtain⟨g7,u⟩:∃ g,Hid (g=w2.heap.size):=⟨_,za rfl⟩;rw [<- u.out] at hb7 hg7 ⊢;generalize w2.alloc _=w7 at *;refine pT ?_;refine uQ ?_;refine ze fun K hK=>?_;go_simp;refine (zbG (eQ (zh M.out.c.own b)) oM).mono ?_;rintro e E ⟨v5,rfl,ho5,p⟩;have hxw5:=b.trans p;obtain⟨C6,cc6,rfl⟩:=zi ho5;have ax:=b.size;have hdis:∀ q,(fQ R6 nr cr6).ownBlock=gO q->(fQ C6 nc cc6).ownBlock≠gO q:=fun q h1 h2=>by have:=(ho2.lt q h1).2;have:=(ho5.lt q h2).1;omega
    replace ho2:=zh ho2 p;replace hb7:=hb7.ext p;exact yT12a1
  ·go_simp;have hb7:=eO wd 90 #[(),()];have D:Ext wd (wd.alloc (.cells #[(),()] 90)):=(dB _).alloc _;have b:=z.trans D;have hg7:=z.size;refine hK.out _ _ b ?_;obtain⟨g7,u⟩:∃ g,Hid (g=wd.heap.size):=⟨_,za rfl⟩;rw [<- u.out] at hb7 hg7 ⊢;generalize wd.alloc _=w7 at *;refine pT ?_;refine uQ ?_;refine ze fun K hK=>?_;go_simp;refine (zbG (eQ (zh M.out.r.own b)) oM).mono ?_;rintro e w2 ⟨v2,rfl,ho2,U⟩;have k:=b.trans U;obtain⟨R6,cr6,rfl⟩:=zi ho2;have aw:=b.size;replace hb7:=hb7.ext U;refine hK.out _ _ k ?_;refine pT ?_;refine uQ ?_;refine ze fun K hK=>?_;go_simp;refine (zbG (eQ (zh M.out.c.own k)) oM).mono ?_;rintro e E ⟨v5,rfl,ho5,p⟩;have hxw5:=k.trans p;obtain⟨C6,cc6,rfl⟩:=zi ho5;have ax:=k.size;have hdis:∀ q,(fQ R6 nr cr6).ownBlock=gO q->(fQ C6 nc cc6).ownBlock≠gO q:=fun q h1 h2=>by have:=(ho2.lt q h1).2;have:=(ho5.lt q h2).1;omega
   replace hb7:=hb7.ext p;replace ho2:=zh ho2 p;exact yT12a1
 case rest =>
  obtain⟨g,R6,C6,cr6,cc6,rfl,aG,az,s⟩:=hcut;have ar:=za ((Kp.refl ae).ext H.out.ok az);have B2:=za b2;have B4:=za b4;obtain⟨tg,ag⟩:∃ tg,Hid (zac L f cols (12 - rows.length) rows=tg):=⟨_,za rfl⟩;have Y:=za s;have ao:=za (show zcg L f rows cols/\zac L f cols (12 - rows.length) rows=tg/\rows.length<=12 from ⟨HI.out,ag.out,aa.out⟩);have Z:=za (ar.out.more H.out.ok (show B<=B+1680*rows.length by omega));clear b2 b3 b4 az s ae ar;have aT:=za hlr.out.2;go_wp2_with fail
  go_loopw [7,8] (fun _ _ wr=>∃ (l:List ByteArray) (S1:Nat->Prop) (R1 C1:Option Addr) (G F:Nat),Hid (Kp J (B+1680*l.length) S Q wr S1)/\Hid (TabB wr S1 Q.heap.size g R1 G C1 F l cols)/\Hid (zcg L f l cols/\zac L f cols (12 - l.length) l=tg/\l.length<=12)) (fun _ _ wr=>12 - lenAt0 wr g)
  case atStart=>exact⟨rows,S,R6,C6,cr6,cc6,Z,Y,ao⟩
  case round =>
   clear Z Y ao;obtain⟨l,S1,R1,C1,G,F,y,s,hI⟩:=hrel;have aJ:=hI.out.2.2;have t:=za (or_firstOpen H.out y.out.j oM s.out.tab hI.out.1 (oH y.out.size) hL);have k2:=(y.out.blk B2.out (ad.out _ (dD _))).1.cell;have k6:=s.out.blk.cell;have aI:=za (zeW s.out.blk);cases hop:zaP L f l cols with
   |none =>
    have aB:=za hop;have O:=za (show tg=gO l by rw [<- hI.out.2.1,zcr _ hop]);rw [hop] at t;clear hop;go_upto_region 3 with (go_at_call 209;refine t.out.mono ?_;rintro e E ⟨S5,rfl,m⟩)
    have a:=za (s.out.kp m);have o:=za (((y.out.trans m).more H.out.ok (show B+1680*l.length+1680<=B+21840 by omega)).back T);have d:=(y.out.trans m).blk B4.out (ad.out _ oM);have k6:=a.out.blk.cell;have k4:=d.1.cell;have f4:=d.1.frozen;clear k2 t m;go_wp2_with fail
    have zku:=zfT H.out.ok o.out a.out.tab d.1 d.2 oM oM oM;have cf:=zku.1.cell;have V:=za zku.2;clear zku k6 k4 f4 d a o;generalize (E.setCell ⟨W.heap.size+1+1,0,gP⟩ (fQ R1 l.length G)).setCell ⟨W.heap.size+1+1,1,gP⟩ (fQ C1 cols.length F)=w9 at *;exact bodyPost_ret (v:=.tuple #[kO #[fQ R1 l.length G,fQ C1 cols.length F],kR true]) (by simp [results,Tryz.results123,go_sem,cf]) rfl ⟨S5,V.out.1,.inr ⟨l,cols,R1,C1,G,F,by rw [ag.out,O.out];rfl,rfl,V.out.2⟩⟩
   |some x =>
    have aB:=za hop
    by_cases hfull:l.length=12
    ·have O:=za (show tg=gP by rw [<- hI.out.2.1,hfull];exact zee hop);have aF:((l.length:Int)==12)=true:=by rw [hfull];rfl
     rw [hop] at t;clear hop hfull;go_upto_region 3 with (go_at_call 209;refine t.out.mono ?_;rintro e E ⟨S5,rfl,m⟩)
     have a:=za (s.out.kp m);have o:=za (((y.out.trans m).more H.out.ok (show B+1680*l.length+1680<=B+21840 by omega)).back T);have d:=(y.out.trans m).blk B4.out (ad.out _ oM);have k6:=a.out.blk.cell;have k4:=d.1.cell;have f4:=d.1.frozen;clear k2 t m;go_wp2_with fail
     have hf:=(dG E (W.heap.size+1+1) 0 (fQ gP 0 0)).trans (dG _ (W.heap.size+1+1) 1 (fQ gP 0 0));have aH:=za (o.out.own H.out.ok hf (fun q _ e=>by have e':q=W.heap.size+1+1:=e;rw [e'];exact⟨oM,oM,d.2⟩));have cf:∀ i,((E.setCell ⟨W.heap.size+1+1,0,gP⟩ ()).setCell ⟨W.heap.size+1+1,1,gP⟩ ()).cell? ⟨W.heap.size+1+1,i,gP⟩=#[fQ gP 0 0,fQ gP 0 0][i]?:=fun i=>by
      have:=((d.1.ab 0 (fQ gP 0 0)).ab 1 (fQ gP 0 0)).cell i;simpa using this
     clear k6 k4 f4 d a o hf;generalize (E.setCell ⟨W.heap.size+1+1,0,gP⟩ ()).setCell ⟨W.heap.size+1+1,1,gP⟩ ()=w9 at *;exact bodyPost_ret (v:=.tuple #[kO #[(),()],kR kK]) (by simp [results,Tryz.results123,go_sem,cf]) rfl ⟨S5,aH.out,.inl ⟨by rw [ag.out,O.out];rfl,rfl⟩⟩
    ·have af:l.length<12:=oM;have aF:((l.length:Int)==12)=kK:=by simp;omega
     have O:=za (show zcg L f (l++[x]) cols/\zac L f cols (12 - (l++[x]).length) (l++[x])=tg/\(l++[x]).length<=12 from
      ⟨hI.out.1.grow af hop,by rw [<- hI.out.2.1,eA,eH,show 12 - l.length=(12 - (l.length+1))+1 by omega,zcY _ hop],by simp;omega⟩)
     rw [hop] at t;clear hop hfull;go_upto_region 3 with (go_at_call 209;refine t.out.mono ?_;rintro e E ⟨S5,rfl,m⟩)
     have a:=s.out.kp m;have o:=za (y.out.trans m);have aq:=za (fun (q:Nat) (hq:E.heap.size<=q)=>zbs.fresh H.out.ok m.j hq);have k6:=a.blk.cell;have ay:=o.out.size;clear k2 t m;go_wp2_with (at_builtin;refine zL Q E rfl _ _ _ rfl 9 _ 1 16 Tryz.underlying88 zt rfl dM (fQ R1 l.length G) l.length (zO l) _ _ rfl rfl ay a.tab.r.own rfl (by simp [Value.oneCell']) lM oM ?_;intro g8 cap8 w8 hown8 hg8 hat8 hlt8;obtain⟨ab,I⟩:=a.push (x:=x) aq.out hown8 hg8 hat8;have k8:=ab.cell;have f8:=ab.frozen)
     have au:=za (((o.out.grown H.out.ok hg8 (fun q hq=>⟨(a.tab.r.own.lt q hq).1,by have:=(a.tab.r.own.lt q hq).1;omega,a.tab.r.far q hq⟩)).cell H.out.ok aG oM a.far 0 (fQ (gO g8) (l.length+1) cap8)));have am:=za I;have av:=za (zeW (n:=l.length+1) (R:=gO ⟨g8,0,gP⟩) (c:=cap8) (by have:=I.blk;rwa [eA,eH] at this));clear hown8 hg8 hat8 ab I k8 f8 k6 a;go_roundw
     case rel=>exact⟨l++[x],S5,gO ⟨g8,0,gP⟩,C1,cap8,F,za (by have:=au.out;rwa [show B+1680*l.length+1680=B+1680*(l++[x]).length by rw [eA,eH];omega] at this),am,O⟩
     case measure =>
      rw [aI.out,av.out];omega
end
section
variable {J:zbs}{B b0 L base nr cr nc cc kn:Nat}{S S':Nat->Prop}{W W':kJ}{R C:Option Addr}{rows cols:List ByteArray}{f:ByteArray->Bool}{rc:kL}
theorem zhV (hO:zfM b0 L f J kn rc)(hj:J B W S)(hB:B+21840<10000000)(hb0:b0<=W.heap.size)(hL:L<64) :
  Calls kN 50 #[orcV L kn rc] W (RetTO J ((zac L f [⟨#[]⟩] 11 [⟨#[]⟩]).map fun r=>(r,[⟨#[]⟩])) (B+21840) S W):=by
 have t:=za hO;obtain⟨d,U0⟩:∃ x,Hid ((W.alloc (.cells #[(L:Int),.func (.func kn) #[rc] #[]] 83)).alloc (.cells #[(),()] 90)=x):=⟨_,za rfl⟩;have n:Ext W d:=(((dB _).alloc _).alloc _).trans (Ext.eq_ U0.out);obtain⟨b1,b2⟩:=zG (Ext.eq_ U0.out);have O:=za (fun (q:Nat) (hq:W.heap.size<=q)=>zbs.fresh hO.ok hj hq);have u:=hO.ok.keep hj n (fun _ _ h=>h.elim);have ao:W.heap.size+1<d.heap.size:=by rw [<- U0.out];simp
 clear hO
 go_enter Tryz.func50,Tryz.ntmps50
 go_upto_region 1 with fail
 rw [U0.out] at *;have k1:=b1.cell;have D:=za (fun (q:Nat) (hq:d.heap.size<=q)=>zbs.fresh t.out.ok u hq);have oa:=World.ownsRow_lit (base:=d.heap.size) (e:=9) (size:=1) d #[kU ⟨#[]⟩] 1 (dD _) dM rfl;have o:Ext d (d.alloc (.cells #[kU ⟨#[]⟩] 9)):=(dB _).alloc _;have U:=World.ownsRow_lit (base:=d.heap.size) (e:=9) (size:=1) (d.alloc (.cells #[kU ⟨#[]⟩] 9)) #[kU ⟨#[]⟩] 1 o.size dM rfl;have p:Ext (d.alloc (.cells #[kU ⟨#[]⟩] 9)) ((d.alloc (.cells #[kU ⟨#[]⟩] 9)).alloc (.cells #[kU ⟨#[]⟩] 9)):=(dB _).alloc _;have s:=zh oa p;have l:zhi ((d.alloc (.cells #[kU ⟨#[]⟩] 9)).alloc (.cells #[kU ⟨#[]⟩] 9)) S d.heap.size (gO ⟨d.heap.size,0,gP⟩) 1 1 (gO ⟨(d.alloc (.cells #[kU ⟨#[]⟩] 9)).heap.size,0,gP⟩) 1 1 [⟨#[]⟩] [⟨#[]⟩]:=
  ⟨⟨s,fun b hb=>D.out b (s.lt b hb).1⟩,⟨U,fun b hb=>D.out b (U.lt b hb).1⟩⟩
 have c:=o.trans p;have y:=t.out.ok.keep u c (fun _ _ h=>h.elim);have z:(d.alloc (.cells #[kU ⟨#[]⟩] 9)).heap.size=d.heap.size+1:=sM;rw [z] at l;have Q:=za (zgg t.out y hB l (zcg.first L f) (oH c.size) hL)
 have aa:=n.size;have ab:=c.size;clear oa U s l y z o p;have F:=za ((b2.ext c));go_upto_region 99 with fail
 refine Q.out.mono ?_;rintro e E ⟨Y,j,m⟩;have a:=j.blk F.out (O.out _ oM);have g:=za (j.back (n.trans c));have k5:=a.1.cell;have Z:=a.1.frozen;rcases m with ⟨hn,rfl⟩|⟨V,M,R,C,I,G,ho,rfl,hT⟩
 ·have Hn:=za hn;clear hn j k1;go_wp2_with fail
  have hf:=(dG E (W.heap.size+1) 0 (fQ gP 0 0)).trans (dG _ (W.heap.size+1) 1 (fQ gP 0 0));have T:=za (g.out.own t.out.ok hf (fun q _ e=>by have e':q=W.heap.size+1:=e;rw [e'];exact⟨oM,oM,a.2⟩));have H:∀ i,((E.setCell ⟨W.heap.size+1,0,gP⟩ ()).setCell ⟨W.heap.size+1,1,gP⟩ ()).cell? ⟨W.heap.size+1,i,gP⟩=#[fQ gP 0 0,fQ gP 0 0][i]?:=fun i=>by
   have:=((a.1.ab 0 (fQ gP 0 0)).ab 1 (fQ gP 0 0)).cell i;simpa using this
  clear k5 Z a g hf;generalize (E.setCell ⟨W.heap.size+1,0,gP⟩ ()).setCell ⟨W.heap.size+1,1,gP⟩ ()=w9 at *;exact bodyPost_ret (v:=.tuple #[kO #[(),()],kR kK]) (by simp [results,Tryz.results50,go_sem,H]) rfl ⟨Y,T.out,.inl ⟨Hn.out,rfl⟩⟩
 ·have Ho:=za ho;have X:=za hT;clear ho hT j k1;go_wp2_with fail
  have zku:=zfT t.out.ok g.out X.out a.1 a.2 oM oM oM;have H:=zku.1.cell;have k:=za zku.2;clear zku k5 Z a X g;generalize (E.setCell ⟨W.heap.size+1,0,gP⟩ (fQ R V.length I)).setCell ⟨W.heap.size+1,1,gP⟩ (fQ C M.length G)=w9 at *;exact bodyPost_ret (v:=.tuple #[kO #[fQ R V.length I,fQ C M.length G],kR true]) (by simp [results,Tryz.results50,go_sem,H]) rfl ⟨Y,k.out.1,.inr ⟨V,M,R,C,I,G,Ho.out,rfl,k.out.2⟩⟩
end
theorem zC.snoc2 {ls:List (List Int)}{l:List Int}(h:zC w base rows ls)(hlow:∀ (i:Nat) (r:kL) (b:Nat),rows[i]?=gO r->r.ownBlock=gO b->b<N)(hN:base<=N)(hrow:w.ownsRow N 3 1 row l.length (ints l)) :
  zC w base (rows++[row]) (ls++[l]):=by
 have c:=h.1;refine⟨by simp [c],fun i r m hr hm=>?_,fun i j ri rj b hri hrj hij hbi=>?_⟩
 ·rcases Nat.lt_trichotomy i rows.length with a|a|a
  ·rw [dJ a] at hr;rw [dJ oM] at hm;exact h.2.1 i r m hr hm
  ·rw [eD oM,a,Nat.sub_self] at hr;rw [eD oM,a,c,Nat.sub_self] at hm;simp at hr hm;subst hr;subst hm;exact zn hrow hN
  ·rw [eJ (by simp;omega)] at hr;cases hr
 ·have d:∀ b,row.ownBlock=gO b->N<=b:=fun b hb=>(hrow.lt b hb).1;have a:i<=rows.length:=by have:=(kT.1 hri).1;simp at this;omega
  have hj:j<=rows.length:=by have:=(kT.1 hrj).1;simp at this;omega
  rcases eP a with a|a<;>rcases eP hj with hj|hj
  ·rw [dJ a] at hri;rw [dJ hj] at hrj;exact h.2.2 i j ri rj b hri hrj hij hbi
  ·rw [dJ a] at hri;subst hj;simp at hrj;subst hrj;intro hc;have f:=hlow i ri b hri hbi;have g:=d b hc;omega
  ·rw [dJ hj] at hrj;subst a;simp at hri;subst hri;intro hc;have f:=hlow j rj b hrj hc;have g:=d b hbi;omega
  ·omega
def zix (R M:Nat) (sh:Aut->Prop) (w:kJ) (e:Ending) (w':kJ):Prop:=
 ∃ (a:Aut) (A:Option Addr) (n c:Nat) (A':Option Addr) (n' c':Nat),e=kP (kO #[a.al,fQ A n c,fQ A' n' c'])/\zM w' w.heap.size A n c A' n' c' a/\Hid (sh a)/\Rd w' R M/\Dr R w w'
structure zcf (w0 W:kJ) (R G M:Nat) (al:Int) (v:kL) (rows:List kL) (ls:List (List Int)) (vA:kL) (acc:List Bool):Prop where
 blk:Blk W G 27 #[al,v,vA]
 nx:W.ownsRow w0.heap.size 110 1 v ls.length rows
 rows:zC W w0.heap.size rows ls
 acc:W.ownsRow w0.heap.size 4 1 vA acc.length (zae acc)
 rd:Rd W R M
 dr:Dr R w0 W
 hR:R<w0.heap.size
 hG:w0.heap.size<=G
section
variable {w0 W W':kJ}{R G M N:Nat}{al:Int}{v vA:kL}{rows:List kL}{ls:List (List Int)}{acc:List Bool}
theorem zcf.drawn (h:zcf w0 W R G M al v rows ls vA acc)(hd:Dr R W W')(hr:Rd W' R N):zcf w0 W' R G N al v rows ls vA acc:=
 ⟨h.blk.dr hd (by have:=h.hR;have:=h.hG;omega),zaN h.nx hd (fun b h1 e=>oH h.hR),h.rows.keep hd (fun b h1 e=>oH h.hR),zaN h.acc hd (fun b h1 e=>oH h.hR),hr,h.dr.trans hd,h.hR,h.hG⟩
theorem zcf.ext (h:zcf w0 W R G M al v rows ls vA acc)(hx:Ext W W'):zcf w0 W' R G M al v rows ls vA acc:=h.drawn (Ext.dr hx) (h.rd.ext hx)
theorem zcf.more (h:zcf w0 W R G M al v rows ls vA acc)(hM:M<=N):zcf w0 W R G N al v rows ls vA acc:={ h with rd:=h.rd.more hM }
theorem zcf.low (h:zcf w0 W R G M al v rows ls vA acc):∀ (i:Nat) (r:kL) (b:Nat),rows[i]?=gO r->r.ownBlock=gO b->b<W.heap.size:=fun i r b hr hb=>by
 obtain⟨l,_,ho⟩:=h.rows.row hr
 exact (ho.lt b hb).2
theorem zcf.grown (h:zcf w0 W R G M al v rows ls vA acc)    (ho:W.ownsRow w0.heap.size e size v0 k xs)(hg:W.grownBy W' v0.ownBlock):Dr R w0 W'/\Rd W' R M:=by
 have a:=h.hR;refine⟨h.dr.grown hg (fun k hk=>(ho.lt k hk).1),h.rd.frm (fF hg) (fun k hk hS=>by have:=(ho.lt k hS).1;omega)⟩
theorem zcf.az {l:List Int}(h:zcf w0 W R G M al v rows ls vA acc)(hlow:∀ (i:Nat) (r:kL) (b:Nat),rows[i]?=gO r->r.ownBlock=gO b->b<K)(hK:w0.heap.size<=K)(hrow:W.ownsRow K 3 1 row l.length (ints l))
  (zkr:W'.ownsRow w0.heap.size 110 1 (fQ (gO g) (ls.length+1) cap) (ls.length+1) (rows++[row]))
  (hg:W.grownBy W' v.ownBlock) (hat:v.ownBlock=gO g\/g=W.heap.size+1) :
  Hid (W'.cell? ⟨G,1,gP⟩=gO v)/\W'.frozen? ⟨G,1,gP⟩=kK/\zcf w0 (W'.setCell ⟨G,1,gP⟩ (fQ (gO g) (ls.length+1) cap)) R G M al (fQ (gO g) (ls.length+1) cap) (rows++[row]) (ls++[l]) vA acc:=by
 have o:=h.hR;have d:=h.hG;have c:Blk W' G 27 #[.int kA al,v,vA]:=(hg.block G h.blk.lt (fun e=>zq h.nx h.blk dM e.symm rfl)).trans h.blk;have x:g≠G:=by
  rcases hat with u|u
  ·exact zq h.nx h.blk dM u
  ·have:=h.blk.lt;omega
 have f:Frm (fun k=>v.ownBlock=gO k) W W':=fF hg;obtain⟨q,t⟩:=h.grown h.nx hg;have j:=h.rows.snoc2 hlow hK hrow;have m:zC W' w0.heap.size (rows++[row]) (ls++[l]):=j.frm f (fun i r b hr hb hS=>by
  obtain⟨y,_,s⟩:=j.row hr;exact zan s h.nx dM hb hS)
 have n:W'.ownsRow w0.heap.size 4 1 vA acc.length (zae acc):=zf h.acc f (fun b hb hS=>zan h.acc h.nx dM hb hS);have a:=dG W' G 1 (fQ (gO g) (ls.length+1) cap);refine⟨c.cell 1,c.frozen 1,⟨by simpa using c.ab 1 _,?_,?_,?_,t.frm a (fun k hk e=>oM),q.ag (p:=⟨G,1,gP⟩) d _,o,d⟩⟩
 ·rw [eA,eH];exact zf zkr a (fun b hv hS=>by
   have:g=b:=by simpa [Value.ownBlock] using hv
   omega)
 ·refine m.frm a (fun i r b hr hb hS=>?_);obtain⟨y,_,s⟩:=m.row hr;exact zq s c dM hb hS
 ·exact zf n a (fun b hb hS=>zq n c dM hb hS)
theorem zcf.ar (h:zcf w0 W R G M al v rows ls vA acc)
  (zkr:W'.ownsRow w0.heap.size 4 1 (fQ (gO g) (acc.length+1) cap) (acc.length+1) (zae acc++[.bool x]))
  (hg:W.grownBy W' vA.ownBlock) (hat:vA.ownBlock=gO g\/g=W.heap.size+1) :
  Hid (W'.cell? ⟨G,2,gP⟩=gO vA)/\W'.frozen? ⟨G,2,gP⟩=kK/\zcf w0 (W'.setCell ⟨G,2,gP⟩ (fQ (gO g) (acc.length+1) cap)) R G M al v rows ls (fQ (gO g) (acc.length+1) cap) (acc++[x]):=by
 have l:=h.hR;have d:=h.hG;have c:Blk W' G 27 #[.int kA al,v,vA]:=(hg.block G h.blk.lt (fun e=>zq h.acc h.blk dM e.symm rfl)).trans h.blk;have s:g≠G:=by
  rcases hat with q|q
  ·exact zq h.acc h.blk dM q
  ·have:=h.blk.lt;omega
 have f:Frm (fun k=>vA.ownBlock=gO k) W W':=fF hg;obtain⟨m,o⟩:=h.grown h.acc hg;have hn:W'.ownsRow w0.heap.size 110 1 v ls.length rows:=zf h.nx f (fun b hb hS=>zan h.nx h.acc dM hb hS);have j:zC W' w0.heap.size rows ls:=h.rows.frm f (fun i r b hr hb hS=>by
  obtain⟨t,_,n⟩:=h.rows.row hr;exact zan n h.acc dM hb hS)
 have a:=dG W' G 2 (fQ (gO g) (acc.length+1) cap);refine⟨c.cell 2,c.frozen 2,⟨by simpa using c.ab 2 _,zf hn a (fun b hb hS=>zq hn c dM hb hS),j.frm a (fun i r b hr hb hS=>?_),?_,o.frm a (fun k hk e=>oM),m.ag (p:=⟨G,2,gP⟩) d _,l,d⟩⟩
 ·obtain⟨t,_,n⟩:=j.row hr;exact zq n c dM hb hS
 ·rw [eA,eH,show zae (acc++[x])=zae acc++[.bool x] by simp [zae]];exact zf zkr a (fun b hv hS=>by
   have:g=b:=by simpa [Value.ownBlock] using hv
   omega)
theorem zcf.side (h:zcf w0 W R G M al v rows ls vA acc)(hlow:∀ (i:Nat) (r:kL) (b:Nat),rows[i]?=gO r->r.ownBlock=gO b->b<K)(hK:w0.heap.size<=K)(ho:W.ownsRow K 3 1 v0 k xs)(hg:W.grownBy W' v0.ownBlock):zcf w0 W' R G M al v rows ls vA acc:=by
 have d:=zn ho hK;obtain⟨c,f⟩:=h.grown d hg;have a:Frm (fun k=>v0.ownBlock=gO k) W W':=fF hg;exact⟨h.blk.frm a (fun e=>zq ho h.blk dM e rfl),zf h.nx a (fun b hb hS=>zan ho h.nx dM hS hb),h.rows.frm a (fun i r b hr hb hS=>by have:=hlow i r b hr hb;have:=(ho.lt b hS).1;omega),
  zf h.acc a (fun b hb hS=>zan ho h.acc dM hS hb),f,c,h.hR,h.hG⟩
theorem zcf.fin {cs:Array kL}{t:TypeId}{sh:Aut->Prop}(h:zcf w0 W R G M al (fQ A n c) rows ls (fQ A' n' c') acc)(hx:Ext w w0) (bz:Blk w0 Z t cs)(hc:cs.size=3)(hRw:R<w.heap.size)(hZ:w.heap.size<=Z)(hZ':Z<w0.heap.size)(hM:M<=N)(hsh:sh ⟨al,ls,acc⟩) :
  Hid (zix R N sh w (kP (kO #[al,fQ A n c,fQ A' n' c'])) (((W.setCell Z al).setCell ⟨Z,1,gP⟩ (fQ A n c)).setCell ⟨Z,2,gP⟩ (fQ A' n' c'))) /\
  Blk (((W.setCell Z al).setCell ⟨Z,1,gP⟩ (fQ A n c)).setCell ⟨Z,2,gP⟩ (fQ A' n' c')) Z t #[.int kA al,fQ A n c,fQ A' n' c']:=by
 have j:=bz.dr h.dr oM;have f:=zP W Z (.int kA al) (fQ A n c) (fQ A' n' c');have hn:n=ls.length:=by
  rcases h.nx.2 with ⟨a,i⟩|⟨_,_,_,a,_⟩
  ·simp at a;omega
  ·simp at a;exact a.2.1
 have d:n'=acc.length:=by
  rcases h.acc.2 with ⟨a,i⟩|⟨_,_,_,a,_⟩
  ·simp at a;omega
  ·simp at a;exact a.2.1
 refine⟨za ⟨⟨al,ls,acc⟩,A,n,c,A',n',c',rfl,⟨⟨rows,?_,?_⟩,hn,?_,d⟩,za hsh,?_,?_⟩,zab j hc _ _ _⟩
 ·exact zn (zaN h.nx f (fun b a e=>oM)) hx.size
 ·exact (h.rows.keep f (fun b a e=>oM)).less hx.size
 ·have g:=zn (zaN h.acc f (fun b a e=>oM)) hx.size;rw [<- d] at g;exact g
 ·exact (h.rd.more hM).frm f (fun k hk e=>oM)
 ·exact (((hx.dr.trans h.dr).ag (p:=⟨Z,0,gP⟩) hZ _).ag (p:=⟨Z,1,gP⟩) hZ _).ag (p:=⟨Z,2,gP⟩) hZ _
end
def SubF {α:Type}(f g:Int->Option α):Prop:=∀ (n:Int) (x:α),f n=gO x->g n=gO x
theorem SubF.refl {α:Type}(f:Int->Option α):SubF f f:=fun _ _ h=>h
theorem SubF.trans {α:Type}{f g h:Int->Option α}(a:SubF f g) (b:SubF g h):SubF f h:=fun n x e=>b n x (a n x e)
section
variable {α:Type}
structure NbI (D:α->Nat->α) (LL:List Nat) (start:α) (xs:List α) (rows:List (List Int)) (row:List Int):Prop where
 x0:xs[0]?=gO start
 nd:xs.Nodup
 reach:∀ x∈xs,∃ v:List Nat,(∀ l∈v,l∈LL)/\x=v.foldl D start
 done:∀ (j:Nat) (x:α),j<rows.length->xs[j]?=gO x->∃ r,rows[j]?=gO r/\r.length=LL.length/\∀ (k l:Nat),LL[k]?=gO l->∃ m:Nat,r[k]?=gO (m:Int)/\xs[m]?=gO (D x l)
 part:∀ (x:α),xs[rows.length]?=gO x->∀ (k l:Nat),k<row.length->LL[k]?=gO l->∃ m:Nat,row[k]?=gO (m:Int)/\xs[m]?=gO (D x l)
 le:rows.length<=xs.length
section
variable {D:α->Nat->α}{LL:List Nat}{start:α}{xs:List α}{rows:List (List Int)}{row:List Int}
theorem NbI.first:NbI D LL start [start] [] []:=
 ⟨rfl,sM,fun x hx=>⟨[],sM,by simpa using hx⟩,fun j x h=>by simp at h,fun x hx k l h=>by simp at h,sM⟩
theorem NbI.hit {x:α}{m:Nat}(h:NbI D LL start xs rows row)(hx:xs[rows.length]?=gO x)(hl:LL[row.length]?=gO l)(hm:xs[m]?=gO (D x l)):NbI D LL start xs rows (row++[(m:Int)]):=by
 refine⟨h.x0,h.nd,h.reach,h.done,fun y hy k l' hk hl'=>?_,h.le⟩;rw [hx] at hy;obtain rfl:=kS hy;rw [eA,eH] at hk;rcases eP (eW hk) with a|rfl
 ·obtain⟨d,b,c⟩:=h.part _ hx k l' a hl';exact⟨d,by rw [dJ a];exact b,c⟩
 ·rw [hl] at hl';obtain rfl:=kS hl';exact⟨m,sM,hm⟩
theorem NbI.more {y:α}{x:α}(h:NbI D LL start xs rows row)(hx:xs[rows.length]?=gO x)(hl:l∈LL)(hy:y=D x l)(hn:y∉xs):NbI D LL start (xs++[y]) rows row:=by
 have n:=(kT.1 hx).1;refine⟨?_,?_,fun z c=>?_,fun j z hj c=>?_,fun z c k l' hk hl'=>?_,by simp;omega⟩
 ·rw [dJ oM];exact h.x0
 ·rw [List.nodup_append];exact⟨h.nd,sM,fun a d b hb e=>by obtain rfl:=lA.1 hb;exact hn (e ▸ d)⟩
 ·rcases kY.1 c with c|c
  ·exact h.reach z c
  ·obtain rfl:=lA.1 c;obtain⟨v,f,g⟩:=h.reach x (dC hx);refine⟨v++[l],fun a d=>?_,by rw [List.foldl_append,<- g,hy];rfl⟩;rcases kY.1 d with d|d
   ·exact f a d
   ·obtain rfl:=lA.1 d;exact hl
 ·rw [dJ oM] at c;obtain⟨r,f,g,o⟩:=h.done j z hj c;refine⟨r,f,g,fun k l' hl'=>?_⟩;obtain⟨m,i,h5⟩:=o k l' hl';exact⟨m,i,by rw [dJ (kT.1 h5).1];exact h5⟩
 ·rw [dJ n] at c;obtain⟨m,i,h5⟩:=h.part z c k l' hk hl';exact⟨m,i,by rw [dJ (kT.1 h5).1];exact h5⟩
theorem NbI.row_ {x:α}(h:NbI D LL start xs rows row)(hx:xs[rows.length]?=gO x)(hr:row.length=LL.length):NbI D LL start xs (rows++[row]) []:=by
 have d:=(kT.1 hx).1;refine⟨h.x0,h.nd,h.reach,fun j z hj hz=>?_,fun z _ k l hk=>by simp at hk,by simp;omega⟩;rw [eA,eH] at hj;rcases eP (eW hj) with a|rfl
 ·obtain⟨r,b,c⟩:=h.done j z a hz;exact⟨r,by rw [dJ a];exact b,c⟩
 ·refine⟨row,sM,hr,fun k l hl=>?_⟩;exact h.part z hz k l (by rw [hr];exact (kT.1 hl).1) hl
end
structure NbC (f:Int->Option α) (ns:List Int) (xs:List α) (M:Int->Option Nat):Prop where
 len:ns.length=xs.length
 code:∀ (i:Nat) (n:Int),ns[i]?=gO n->∃ x,xs[i]?=gO x/\f n=gO x
 some_:∀ (m:Int) (j:Nat),M m=gO j->ns[j]?=gO m
 none_:∀ (m:Int),M m=gP->m∉ns
section
variable {f g:Int->Option α}{ns:List Int}{xs:List α}{M:Int->Option Nat}
theorem NbC.sub (h:NbC f ns xs M)(hs:SubF f g):NbC g ns xs M:=
 ⟨h.len,fun i n hn=>by obtain⟨x,h1,h2⟩:=h.code i n hn;exact⟨x,h1,hs n x h2⟩,h.some_,h.none_⟩
theorem NbC.hit {m:Int}{y:α}(h:NbC f ns xs M)(hy:f m=gO y)(hm:M m=gO j):xs[j]?=gO y:=by
 obtain⟨x,b,a⟩:=h.code j m (h.some_ m j hm);rw [hy] at a;rw [b,<- a]
theorem NbC.miss {m:Int}{y:α}(h:NbC f ns xs M)(hinj:∀ (n m:Int) (x:α),f n=gO x->f m=gO x->n=m)(hy:f m=gO y)(hm:M m=gP):y∉xs:=by
 intro hin;obtain⟨j,hj⟩:=eN hin;have a:=(kT.1 hj).1;obtain⟨n,hn⟩:∃ n,ns[j]?=gO n:=⟨_,dE (by rw [h.len];exact a)⟩;obtain⟨x,b,c⟩:=h.code j n hn;rw [hj] at b;obtain rfl:=kS b;have:=hinj n m _ c hy;subst this;exact h.none_ n hm (dC hn)
theorem NbC.push {m:Int}{y:α}(h:NbC f ns xs M)(hy:f m=gO y)(hm:M m=gP):NbC f (ns++[m]) (xs++[y]) (ziv M m ns.length):=by
 refine⟨by simp [h.len],fun i n hn=>?_,fun n j hj=>?_,fun n hn=>?_⟩
 ·rcases e7 i ns.length with a|a
  ·rw [dJ a] at hn;obtain⟨x,b,c⟩:=h.code i n hn;exact⟨x,by rw [dJ (by rw [<- h.len];exact a)];exact b,c⟩
  ·have d:i=ns.length:=by
    have:=(kT.1 hn).1;simp at this;omega
   subst d;simp at hn;subst hn;exact⟨y,by rw [h.len];simp,hy⟩
 ·by_cases e:n=m
  ·subst e;rw [zcH] at hj;obtain rfl:=kS hj;simp
  ·rw [zdh M _ e] at hj;have:=h.some_ n j hj;rw [dJ (kT.1 this).1];exact this
 ·by_cases e:n=m
  ·subst e;rw [zcH] at hn;cases hn
  ·rw [zdh M _ e] at hn;intro hin;rcases kY.1 hin with a|a
   ·exact h.none_ n hn a
   ·exact e (lA.1 a)
theorem NbC.first {x0:α}(h:f n0=gO x0):NbC f [n0] [x0] (ziv (fun _=>gP) n0 0):=by
 have:=NbC.push (f:=f) (ns:=[]) (xs:=[]) (M:=fun _=>gP) (m:=n0) (y:=x0) ⟨rfl,(fun i n hn=>by simp at hn),(fun m j hj=>by cases hj),(fun m _=>sM)⟩ h rfl;simpa using this
end
end
abbrev domZ (x:Int):Prop := -1152921504606846976<x/\x<1152921504606846976
abbrev MapZ (w:kJ) (b n:Nat) (M:Int->Option Nat):Prop:=zdI 3 (fun x:Int=>Lit.int kA x) domZ w b n M
structure NbM (base:Nat) (W:kJ) (S:Nat->Prop) (mb:Nat) (vn vr vv:kL) (N nm:Nat) (ns row:List Int) (rows:List (List Int)) (M:Int->Option Nat):Prop where
 nodes:W.ownsRow base 3 1 vn ns.length (ints ns)
 nS:∀ b,vn.ownBlock=gO b->¬ S b
 row:W.ownsRow N 3 1 vr row.length (ints row)
 rS:∀ b,vr.ownBlock=gO b->¬ S b
 nr:∀ b,vn.ownBlock=gO b->vr.ownBlock≠gO b
 rows:∃ rs,W.ownsRow base 110 1 vv rows.length rs/\zC W base rs rows/\(∀ b,vv.ownBlock=gO b->¬ S b)/\∀ (i:Nat) (r:kL) (b:Nat),rs[i]?=gO r->r.ownBlock=gO b->¬ S b/\b<N/\vn.ownBlock≠gO b
 map:MapZ W mb nm M
 mS:¬ S mb
 mlow:base<=mb
 N0:base<=N/\N<=W.heap.size
section
variable {base mb N nm:Nat}{W W' W1:kJ}{S S':Nat->Prop}{vn vr vv:kL}{ns row:List Int}{rows:List (List Int)}{M:Int->Option Nat}{J:zbs}{B:Nat}
theorem NbM.kp (h:NbM base W S mb vn vr vv N nm ns row rows M) (k:Kp J B S W W' S'):NbM base W' S' mb vn vr vv N nm ns row rows M:=by
 obtain⟨n,a,c,d,f⟩:=h.rows;refine⟨(k.row h.nodes h.nS).1,(k.row h.nodes h.nS).2,(k.row h.row h.rS).1,(k.row h.row h.rS).2,h.nr,⟨n,(k.row a d).1,c.frm k.frm (fun i r b hr hb=>(f i r b hr hb).1),(k.row a d).2,fun i r b hr hb=>?_⟩,h.map.frm k.frm h.mS,k.out h.map.lt h.mS,h.mlow,⟨h.N0.1,dW h.N0.2 k.size⟩⟩;obtain⟨h5,g,j⟩:=f i r b hr hb;obtain⟨l,_,m⟩:=c.row hr;exact⟨k.out (m.lt b hb).2 h5,g,j⟩
theorem NbM.pushN {m:Int}(h:NbM base W S mb vn vr vv N nm ns row rows M)(hfr:∀ k,W.heap.size<=k->¬ S k)
  (zkr:W'.ownsRow base 3 1 (fQ (gO g) (ns.length+1) cap) (ns.length+1) (ints ns++[.int kA m])) (hg:W.grownBy W' vn.ownBlock) (hat:vn.ownBlock=gO g\/g=W.heap.size+1) :
  NbM base W' S mb (fQ (gO g) (ns.length+1) cap) vr vv N nm (ns++[m]) row rows M:=by
 obtain⟨u,j,n,p,o⟩:=h.rows;have c:Frm (fun k=>vn.ownBlock=gO k) W W':=fF hg;have a:∀ b,(fQ (gO g) (ns.length+1) cap).ownBlock=gO b->b=g:=fun b hb=>by simpa [Value.ownBlock] using hb.symm
 refine⟨by rw [eA,eH,ints,eU];exact zkr,fun b hb=>?_,zf h.row c (fun b hb e=>h.nr b e hb),h.rS,fun b hb hr=>?_,⟨u,zf j c (fun b hb e=>zan j h.nodes dM hb e),n.frm c (fun i r b hr hb e=>(o i r b hr hb).2.2 e),p,fun i r b hr hb=>?_⟩,h.map.frm c (fun e=>h.map.aj h.nodes e),h.mS,h.mlow,⟨h.N0.1,dW h.N0.2 c.size⟩⟩
 ·obtain rfl:=a b hb;rcases hat with e|e
  ·exact h.nS b e
  ·exact hfr b oM
 ·obtain rfl:=a b hb;have d:=(h.row.lt b hr).2;rcases hat with e|e
  ·exact h.nr b e hr
  ·omega
 ·obtain⟨h5,q,s⟩:=o i r b hr hb;refine⟨h5,q,fun e=>?_⟩;obtain rfl:=a b e;obtain⟨l,_,t⟩:=n.row hr;have d:=(t.lt b hb).2;rcases hat with f | f
  ·exact s f
  ·omega
theorem NbM.pushR {m:Int}(h:NbM base W S mb vn vr vv N nm ns row rows M)(hfr:∀ k,W.heap.size<=k->¬ S k)
  (zkr:W'.ownsRow N 3 1 (fQ (gO g) (row.length+1) cap) (row.length+1) (ints row++[.int kA m])) (hg:W.grownBy W' vr.ownBlock) (hat:vr.ownBlock=gO g\/g=W.heap.size+1) :
  NbM base W' S mb vn (fQ (gO g) (row.length+1) cap) vv N nm ns (row++[m]) rows M:=by
 obtain⟨o,d,j,l,f⟩:=h.rows;have a:Frm (fun k=>vr.ownBlock=gO k) W W':=fF hg;have c:∀ b,(fQ (gO g) (row.length+1) cap).ownBlock=gO b->b=g:=fun b hb=>by simpa [Value.ownBlock] using hb.symm
 refine⟨zf h.nodes a (fun b hb e=>h.nr b hb e),h.nS,by rw [eA,eH,ints,eU];exact zkr,fun b hb=>?_,fun b hb hr=>?_,⟨o,zf d a (fun b hb e=>zan d h.row dM hb e),j.frm a (fun i r b hr hb e=>?_),l,f⟩,h.map.frm a (fun e=>h.map.aj h.row e),h.mS,h.mlow,⟨h.N0.1,dW h.N0.2 a.size⟩⟩
 ·obtain rfl:=c b hb;rcases hat with e|e
  ·exact h.rS b e
  ·exact hfr b oM
 ·obtain rfl:=c b hr;have n:=(h.nodes.lt b hb).2;rcases hat with e|e
  ·exact h.nr b hb e
  ·omega
 ·have:=(h.row.lt b e).1;have:=(f i r b hr hb).2.1;omega
theorem NbM.setMap {M':Int->Option Nat}(h:NbM base W S mb vn vr vv N nm ns row rows M)(hmap:MapZ W' mb n M')(hg:W.grownBy W' (gO mb)):NbM base W' S mb vn vr vv N n ns row rows M':=by
 have f:Frm (fun k=>gO mb=gO k) W W':=fF hg;have a:Frm (fun k=>k=mb) W W':=f.mono (fun k _ e=>(kS e).symm);obtain⟨o,c,d,g,j⟩:=h.rows;refine⟨zf h.nodes a (fun b hb e=>by subst e;exact h.map.aj h.nodes hb),h.nS,zf h.row a (fun b hb e=>by subst e;exact h.map.aj h.row hb),h.rS,h.nr,⟨o,zf c a (fun b hb e=>by subst e;exact h.map.aj c hb),d.frm a (fun i r b hr hb e=>?_),g,j⟩,hmap,h.mS,h.mlow,⟨h.N0.1,dW h.N0.2 f.size⟩⟩;subst e;obtain⟨l,_,m⟩:=d.row hr;exact h.map.aj m hb
theorem NbM.pushV {rs:List kL}(h:NbM base W S mb vn (fQ A row.length c) vv N nm ns row rows M)(hfr:∀ k,W.heap.size<=k->¬ S k)(h1:W.ownsRow base 110 1 vv rows.length rs)(h2:zC W base rs rows)
  (h3:∀ b,vv.ownBlock=gO b->¬ S b) (h4:∀ (i:Nat) (r:kL) (b:Nat),rs[i]?=gO r->r.ownBlock=gO b->¬ S b/\b<N/\vn.ownBlock≠gO b)
  (zkr:W'.ownsRow base 110 1 (fQ (gO g) (rows.length+1) cap) (rows.length+1) (rs++[fQ A row.length c])) (hg:W.grownBy W' vv.ownBlock) (hat:vv.ownBlock=gO g\/g=W.heap.size+1) :
  NbM base W' S mb vn (fQ gP 0 0) (fQ (gO g) (rows.length+1) cap) W'.heap.size nm ns [] (rows++[row]) M:=by
 have a:Frm (fun k=>vv.ownBlock=gO k) W W':=fF hg;have m:∀ b,(fQ (gO g) (rows.length+1) cap).ownBlock=gO b->b=g:=fun b hb=>by simpa [Value.ownBlock] using hb.symm
 have o:=h2.snoc2 (fun i r b hr hb=>(h4 i r b hr hb).2.1) h.N0.1 h.row;have d:∀ (i:Nat) (r:kL) (b:Nat),(rs++[fQ A row.length c])[i]?=gO r->r.ownBlock=gO b->¬ S b/\b<W.heap.size/\vn.ownBlock≠gO b:=by
  intro i r b hr hb;rcases e7 i rs.length with p|p
  ·rw [dJ p] at hr;obtain⟨h5,f,j⟩:=h4 i r b hr hb;exact⟨h5,eI f h.N0.2,j⟩
  ·have n:i=rs.length:=by
    have:=(kT.1 hr).1;simp at this;omega
   subst n;simp at hr;subst hr;exact⟨h.rS b hb,(h.row.lt b hb).2,fun e=>h.nr b e hb⟩
 refine⟨zf h.nodes a (fun b hb e=>zan h.nodes h1 dM hb e),h.nS,World.ownsRow_nil _ _ _ _,fun b hb=>by simp [Value.ownBlock] at hb,fun b _ hr=>by simp [Value.ownBlock] at hr,⟨_,by rw [eA,eH];exact zkr,o.frm a (fun i r b hr hb e=>?_),fun b hb=>?_,fun i r b hr hb=>?_⟩,h.map.frm a (fun e=>h.map.aj h1 e),h.mS,h.mlow,⟨dW (dW h.N0.1 h.N0.2) a.size,dD _⟩⟩
 ·obtain⟨l,_,q⟩:=o.row hr;exact zan q h1 dM hb e
 ·obtain rfl:=m b hb;rcases hat with e|e
  ·exact h3 b e
  ·exact hfr b oM
 ·obtain⟨h5,f,j⟩:=d i r b hr hb;exact⟨h5,eI f a.size,j⟩
end
theorem own_int_at {l:List Int}{x:Int}(h:W.ownsRow base 3 1 (fQ (gO g) n c) n (ints l))(hx:l[j]?=gO x):W.cell? ⟨g,j,gP⟩=gO (.int kA x):=by
 have a:=zdc h;have hj:=(kT.1 hx).1;rw [h.cellAt j (by simp [ints] at a;omega)];simp [ints,hx]
section
variable {α:Type}
def RetNext (K:(Int->Option α)->zbs) (D:α->Nat->α) (f:Int->Option α) (B:Nat) (S:Nat->Prop) (W:kJ) (x:α) (l:Nat) (e:Ending) (W':kJ):Prop:=
 ∃ (g:Int->Option α) (m:Int) (S':Nat->Prop),e=kP (.int kA m)/\SubF f g/\g m=gO (D x l)/\Kp (K g) (B+1) S W W' S'
def RetNb (K:(Int->Option α)->zbs) (D:α->Nat->α) (LL:List Nat) (x0:α) (lim:Nat) (f0:Int->Option α) (B1:Nat) (S0:Nat->Prop) (w:kJ) (e:Ending) (w':kJ):Prop:=
 ∃ (g:Int->Option α) (B:Nat) (S':Nat->Prop),SubF f0 g/\Kp (K g) B S0 w w' S'/\B<=B1 /\
  ((e=kP (.tuple #[(),(),kR kK])/\∃ xs:List α,xs.Nodup/\xs.length=lim+1/\∀ x∈xs,∃ v:List Nat,(∀ l∈v,l∈LL)/\x=v.foldl D x0) \/
   ∃ (A:Option Addr) (c:Nat) (A':Option Addr) (c':Nat) (ns:List Int) (xs:List α) (rows:List (List Int)),e=kP (.tuple #[fQ A xs.length c,fQ A' xs.length c',kR true])/\xs.length<=lim/\NbI D LL x0 xs rows []/\rows.length=xs.length /\
    (ns.length=xs.length/\∀ (i:Nat) (n:Int),ns[i]?=gO n->∃ x,xs[i]?=gO x/\g n=gO x)/\w'.ownsRow w.heap.size 3 1 (fQ A xs.length c) xs.length (ints ns)/\zfg w' w.heap.size (fQ A' xs.length c') rows)
theorem zjM {K:(Int->Option α)->zbs}{D:α->Nat->α}{LL:List Nat}{x0:α}{lim Bm B0 kn cL bL:Nat}{cap:Array kL}{AL:Option Addr}{S0:Nat->Prop}{f0:Int->Option α} 
  (hJ:∀ f,zbs.Ok b0 (K f)) (hinj:∀ f B W S,K f B W S->∀ (n m:Int) (x:α),f n=gO x->f m=gO x->n=m) (hdom:∀ f B W S,K f B W S->∀ (n:Int) (x:α),f n=gO x->domZ n)
  (hin:∀ args W,(callFunc kn args).run kN W=.ok (.enter kn args) W)
  (hnext:∀ (f:Int->Option α) (B:Nat) (W:kJ) (S:Nat->Prop) (n:Int) (x:α) (l:Nat),K f B W S->B<Bm->f n=gO x->l∈LL->Calls kN kn (#[.int kA n,.int kA (l:Nat)]++cap) W (RetNext K D f B S W x l))
  (h0:K f0 B0 w S0) (hx0:f0 n0=gO x0) (hb0:b0<=w.heap.size) (hL:w.ownsRow bL 3 1 (fQ AL LL.length cL) LL.length (zag LL)) (hLS:∀ b,(fQ AL LL.length cL).ownBlock=gO b->¬ S0 b)
  (hL6:LL.length<=6) (hlim:1<=lim) (hlim2:lim<=100000) (hB:B0+6*lim<=Bm) :
  Calls kN 109 #[n0,fQ AL LL.length cL,.int kA (lim:Nat),.func (.func kn) #[] cap] w (RetNb K D LL x0 lim f0 (B0+6*lim) S0 w):=by
 have bo:=hdom f0 B0 w S0 h0 n0 x0 hx0;have X:=za hJ;have aK:=za hinj;have aJ:=za hdom;have au:=za hnext;have HL:=za hL;have bg:=za hLS;have bh:=za hx0;have aZ:=Kp.refl (J:=K f0) h0;have aw:=fun (k:Nat) (v:w.heap.size<=k)=>zbs.fresh (hJ f0) h0 v;clear hJ hinj hdom hnext hL hLS hx0 h0;have bK:=@run_makeMap kN
 go_enter Tryz.func109,Tryz.ntmps109
 go_upto_region 2 with fail
 have on:=World.ownsRow_lit (base:=w.heap.size) (e:=3) (size:=1) w #[n0] 1 (dD _) dM rfl;generalize U0:w.alloc _=O at *;have a7:=Ext.al_ U0;have bN:w.heap.size<O.heap.size:=by rw [<- U0];simp
 have a0:=aZ.ext (X.out f0) a7;clear U0;have R:MapZ (O.alloc (.map #[] 0)) O.heap.size 0 (fun _=>gP):=zdI.made O;have aE:Ext O (O.alloc (.map #[] 0)):=(dB O).alloc _;go_upto_region 3 with (refine zdH (key:=n0) (v9:=0) (b:=O.heap.size) _ keyZ rfl _ _ _ (.inr rfl) rfl R oM rfl rfl bo oM ?_;intro w2 hM2 hg2)
 have aV:Frm (fun k=>gO O.heap.size=gO k) (O.alloc (.map #[] 0)) w2:=fF hg2;have T:=(a0.ext (X.out f0) aE).grown (X.out f0) hg2 (fun k v=>by
  have:=kS v;exact⟨oM,oM,aw k oM⟩)
 have a9:=zf (zh on aE) aV (fun b hb e=>by
  have h1:b=w.heap.size:=by simpa [Value.ownBlock] using hb.symm
  have h2:=kS e;omega)
 have a2:NbM w.heap.size w2 S0 O.heap.size (fQ (gO w.heap.size) 1 1) (fQ gP 0 0) (fQ gP 0 0) w2.heap.size 1 [n0] [] [] (ziv (fun _=>gP) n0 0):=
  ⟨a9,fun b hb=>by
   have h1:b=w.heap.size:=by simpa [Value.ownBlock] using hb.symm
   exact aw b oM,World.ownsRow_nil _ _ _ _,fun b hb=>by simp [Value.ownBlock] at hb,fun b _ hr=>by simp [Value.ownBlock] at hr,⟨[],World.ownsRow_nil _ _ _ _,zC.nil _ _,fun b hb=>by simp [Value.ownBlock] at hb,fun i r b hr=>by simp at hr⟩,hM2,aw _ oM,oM,⟨T.size,dD _⟩⟩
 have aS:=za (NbI.first (D:=D) (LL:=LL) (start:=x0))
 have aR:=za (NbC.first bh.out)
 clear R a7 aE on a9 aV hg2 hM2 a0 aZ;generalize O.heap.size=mb at *;go_wp2_with fail
 go_loopw [11,13,14] (fun v11 v13 iv wr=>∃ (i B L:Nat) (wN:kJ) (g:Int->Option α) (S:Nat->Prop) (c:List Int) (t:List α) (a:List (List Int)) (M:Int->Option Nat),iv=.int kA i/\Hid (i=a.length)/\i<=c.length/\t.length<=lim/\B<=B0+6*i/\Hid (SubF f0 g)/\Hid (Kp (K g) B S0 w wr S) /\
  Hid (NbM w.heap.size wr S mb v11 (fQ gP 0 0) v13 wN.heap.size L c [] a M)/\Hid (L=c.length)/\Hid (NbI D LL x0 t a [])/\Hid (NbC g c t M)) (fun _ _ iv _=>lim+1 - (intOf iv).toNat)
 case atStart=>exact⟨0,B0,1,w2,f0,S0,[n0],[x0],[],_,rfl,za rfl,sM,by simpa using hlim,oM,za (SubF.refl _),za T,za a2,za rfl,aS,aR⟩
 case round =>
  clear T a2 aS aR;obtain⟨i,B,L,wN,g,S,c,t,a,M,rfl,s,aY,I,aQ,p,v,G,C,hI,Z⟩:=hrel;have o:=za Z.out.len;have a3:c.length<=lim:=oH o.out;obtain⟨aq,ad,rfl⟩:=zi G.out.nodes;obtain⟨rs,v1,v2,v3,v4⟩:=G.out.rows;obtain⟨ab,ae,rfl⟩:=zi v1
  by_cases U:i<c.length
  case neg =>
   have ah:i=c.length:=oM;have ao:=s.out;have u:=o.out;have zku:=za (show RetNb K D LL x0 lim f0 (B0+6*lim) S0 w (kP (.tuple #[fQ aq c.length ad,fQ ab a.length ae,kR true])) wr from
    ⟨g,B,S,p.out,v.out,oM,.inr ⟨aq,ad,ab,ae,c,t,a,by rw [u,<- ao,ah,u],I,hI.out,oM,⟨u,Z.out.code⟩,by rw [<- u];exact G.out.nodes,rs,(by rw [show t.length=a.length by omega];exact v1),v2⟩⟩)
   clear v1 v2 v3 v4 ao u;subst ah;go_wp2_with fail
   go_ret3;exact zku.out
  case pos =>
  have ap:(i:Int)<(c.length:Int):=oM;go_wp2_with fail
  go_loopw [11,15,34] (fun v11 v15 kv wq=>∃ (k B L:Nat) (g:Int->Option α) (S:Nat->Prop) (c:List Int) (t:List α) (d:List Int) (M:Int->Option Nat),kv=.int kA k/\Hid (k=d.length)/\k<=LL.length/\i<c.length/\t.length<=lim/\B<=B0+6*i+k/\Hid (SubF f0 g)/\Hid (Kp (K g) B S0 w wq S) /\
   Hid (NbM w.heap.size wq S mb v11 v15 (fQ ab a.length ae) wN.heap.size L c d a M)/\Hid (L=c.length)/\Hid (NbI D LL x0 t a d)/\Hid (NbC g c t M)) (fun _ _ kv _=>LL.length - (intOf kv).toNat)
  case atStart=>exact⟨0,B,L,g,S,c,t,[],M,rfl,za rfl,Nat.zero_le _,U,I,oM,p,v,G,C,hI,Z⟩
  case round =>
   clear p v G C hI Z aQ I o a3 U ap aY v1 v2 v3 v4;obtain⟨k,B,L,g,S,c,t,d,M,rfl,y,bJ,U,I,aQ,p,v,G,C,hI,Z⟩:=hrel;have o:=za Z.out.len;have a3:c.length<=lim:=oH o.out;obtain⟨aq,ad,rfl⟩:=zi G.out.nodes;obtain⟨aI,aP,rfl⟩:=zi G.out.row;have ap:(i:Int)<(c.length:Int):=oM
   by_cases hkL:k<LL.length
   case neg =>
    obtain⟨rs,v1,v2,v3,v4⟩:=G.out.rows;have ah:=za (show d.length=LL.length by have:=y.out;omega);obtain⟨x,hx⟩:∃ x,t[a.length]?=gO x:=⟨_,dE (by have:=s.out;have:=o.out;omega)⟩;have bk:=za (hI.out.row_ hx ah.out);have bq:=za (fun (q:Nat) (hq:wr.heap.size<=q)=>zbs.fresh (X.out g) v.out.j hq);have a5:=v.out.size;have bm:=za v2;have aU:=za v3;have bn:=za v4;have bM:a.length<=100000:=by have:=s.out;have:=o.out;omega
    clear hx v2 v3 v4 hI;go_wp2_with (at_builtin;refine zL w wr rfl _ _ _ rfl 110 _ 1 24 Tryz.underlying24 zbH rfl dM (fQ ab a.length ae) a.length rs _ _ rfl rfl a5 v1 rfl (zaK _ _ _) lM oM ?_;intro g9 cap9 w9 hown9 hg9 hat9 hlt9)
    have bs:=za (G.out.pushV bq.out v1 bm.out aU.out bn.out hown9 hg9 hat9);have T:=za (v.out.grown (X.out g) hg9 (fun q hq=>⟨(v1.lt q hq).1,by have:=(v1.lt q hq).1;omega,aU.out q hq⟩));go_roundw
    case rel=>exact⟨i+1,B,L,w9,g,S,c,t,a++[d],M,gM,za (by rw [eA,<- s.out];rfl),oM,I,oM,p,T,bs,C,bk,Z⟩
    case measure=>exact uM
   case pos =>
   have bB:(k:Int)<(LL.length:Int):=oM;obtain⟨l,hl⟩:∃ l,LL[k]?=gO l:=⟨_,dE hkL⟩;have Hl:=za hl;obtain⟨n,hn⟩:∃ n,c[i]?=gO n:=⟨_,dE U⟩;obtain⟨x,hx,aX⟩:=Z.out.code i n hn;have Hx:=za hx;obtain⟨gL,rfl,-,-⟩:=zW HL.out oM;obtain⟨bi,rfl,-,-⟩:=zW G.out.nodes oM;have cL:=zcv (v.out.row HL.out bg.out).1 hkL;rw [dF,hl,fO] at cL;have cN:=own_int_at G.out.nodes hn;have V:=za (au.out g B wr S n x l v.out.j oM aX (dC hl));clear hx hl hn aX;go_upto_region 12 with fail
   refine V.out.mono ?_;rintro e w5 ⟨Y,m,S',rfl,E,ax,H⟩;have az:=za (v.out.trans H);have h:=za (G.out.kp H);have F:=za (p.out.trans E);have af:=za (Z.out.sub E);have ag:=aJ.out Y _ w5 S' H.j m _ ax;have ar:=za ax;have ay:=za (aK.out Y _ w5 S' H.j);have am:=za (fun (q:Nat) (hq:w5.heap.size<=q)=>zbs.fresh (X.out Y) H.j hq);clear cL cN V v G p Z E ax H;cases hMm:M m with
   |some j =>
    have Q:=za hMm;have a8:=za (af.out.hit ar.out hMm);have bI:j<c.length:=by have:=o.out;have:=(kT.1 a8.out).1;omega
    have av:=za (hI.out.hit (l:=l) (by rw [<- s.out];exact Hx.out) (by rw [<- y.out];exact Hl.out) a8.out);clear hMm;go_upto_region 13 with (refine zaH (key:=m) _ keyZ rfl _ _ rfl rfl h.out.map rfl ag ?_;rw [Q.out];intro cc hcc;obtain rfl:=hcc j rfl;clear hcc)
    have aF:=h.out.row;have aT:=h.out.N0;have a4:d.length<=6:=oH y.out;go_wp2_with (at_builtin;refine zL wN w5 rfl _ _ _ rfl 3 _ 1 8 Tryz.underlying110 zT rfl dM (fQ aI d.length aP) d.length (ints d) _ _ rfl rfl aT.2 aF rfl (zaJ _) lM oM ?_;intro g9 cap9 w9 hown9 hg9 hat9 hlt9)
    have aC:=za (h.out.pushR am.out hown9 hg9 hat9);have aA:=za (az.out.grown (X.out Y) hg9 (fun q hq=>⟨by have:=(aF.lt q hq).1;omega,by have:=(aF.lt q hq).1;omega,h.out.rS q hq⟩));go_roundw
    case rel=>exact⟨k+1,B+1,L,Y,S',c,t,d++[(j:Int)],M,gM,za (by rw [eA,<- y.out];rfl),oM,U,I,oM,F,aA,aC,C,av,af⟩
    case measure=>exact uM
   |none =>
    have Q:=za hMm;have aD:=za (af.out.miss ay.out ar.out hMm);clear hMm
    by_cases hfull:c.length=lim
    ·have bu:=za (show RetNb K D LL x0 lim f0 (B0+6*lim) S0 w (kP (.tuple #[(),(),kR kK])) w5 from by
      refine⟨Y,B+1,S',F.out,az.out,oM,.inl ⟨rfl,t++[D x l],?_,by have:=o.out;simp;omega,fun z hz=>?_⟩⟩
      ·exact (hI.out.more (l:=l) (by rw [<- s.out];exact Hx.out) (dC Hl.out) rfl aD.out).nd
      ·exact (hI.out.more (l:=l) (by rw [<- s.out];exact Hx.out) (dC Hl.out) rfl aD.out).reach z hz)
     have be:=za hfull;have bp:((c.length:Int)==(lim:Int))=true:=by simp;omega
     clear hfull;go_wp2_with (refine zaH (key:=m) _ keyZ rfl _ _ rfl rfl h.out.map rfl ag ?_;rw [Q.out];intro cc hcc;clear hcc)
     go_ret3;exact bu.out
    ·have bp:((c.length:Int)==(lim:Int))=kK:=by simp;omega
     have bC:c.length+1<=lim:=oM;clear hfull;have av:=za (show NbI D LL x0 (t++[D x l]) a (d++[(c.length:Int)]) from
      (hI.out.more (l:=l) (by rw [<- s.out];exact Hx.out) (dC Hl.out) rfl aD.out).hit (x:=x) (l:=l) (by rw [dJ (by have:=s.out;have:=o.out;omega),<- s.out];exact Hx.out) (by rw [<- y.out];exact Hl.out) (by rw [o.out];simp))
     have bj:=za (af.out.push ar.out Q.out);have aj:L<1152921504606846976:=oH C.out;go_upto_region 17 with (refine zaH (key:=m) _ keyZ rfl _ _ rfl rfl h.out.map rfl ag ?_;rw [Q.out];intro cc hcc;clear hcc)
     have aT:=h.out.N0;have a4:d.length<=6:=oH y.out;have bx:=h.out.nodes;go_upto_region 18 with (refine zdH (key:=m) (v9:=c.length) (b:=mb) _ keyZ rfl _ _ _ (.inl rfl) rfl h.out.map aj rfl rfl ag oM ?_;intro w7 hM7 hg7)
     have aB:=za (h.out.setMap hM7 hg7);have a1:=za (az.out.grown (X.out Y) hg7 (fun q hq=>by
      obtain rfl:=kS hq;exact⟨h.out.mlow,dW hb0 h.out.mlow,h.out.mS⟩))
     have bG:=(fF hg7).size;have an:=za (fun (q:Nat) (hq:w7.heap.size<=q)=>am.out q oM);have ak:=aB.out.nodes;have bt:=a1.out.size;clear hM7 hg7 bx;go_upto_region 19 with (at_builtin;refine zL w w7 rfl _ _ _ rfl 3 _ 1 8 Tryz.underlying110 zT rfl dM (fQ (gO bi) c.length ad) c.length (ints c) _ _ rfl rfl bt ak rfl (zaJ _) lM oM ?_;intro g8 cap8 w8 hown8 hg8 hat8 hlt8)
     have ai:=za (aB.out.pushN an.out hown8 hg8 hat8);have br:=za (a1.out.grown (X.out Y) hg8 (fun q hq=>⟨(ak.lt q hq).1,by have:=(ak.lt q hq).1;omega,aB.out.nS q hq⟩));have bH:=(fF hg8).size;have aW:=za (fun (q:Nat) (hq:w8.heap.size<=q)=>an.out q oM);have aG:=ai.out.row;have bl:=ai.out.N0;clear hown8 hg8 hat8 ak;go_wp2_with (at_builtin;refine zL wN w8 rfl _ _ _ rfl 3 _ 1 8 Tryz.underlying110 zT rfl dM (fQ aI d.length aP) d.length (ints d) _ _ rfl rfl bl.2 aG rfl (zaJ _) lM oM ?_;intro g9 cap9 w9 hown9 hg9 hat9 hlt9)
     have aC:=za (ai.out.pushR aW.out hown9 hg9 hat9);have aA:=za (br.out.grown (X.out Y) hg9 (fun q hq=>⟨by have:=(aG.lt q hq).1;omega,by have:=(aG.lt q hq).1;omega,ai.out.rS q hq⟩));go_roundw
     case rel=>exact⟨k+1,B+1,L+1,Y,S',c++[m],t++[D x l],d++[(c.length:Int)],_,gM,za (by rw [eA,<- y.out];rfl),oM,by simp;omega,by have:=o.out;simp;omega,oM,F,aA,aC,za (by rw [eA,<- C.out];rfl),av,bj⟩
     case measure=>exact uM
end
structure zex (a t:Aut) (xs:List Nat):Prop where
 al:t.al=a.al
 nb:NbI (aGo a) (letters a.al.toNat 6) 0 xs t.next []
 len:t.next.length=xs.length
 acc:t.acc=xs.map (zaC a)
section
variable {a t:Aut}{xs:List Nat}
theorem zex.lt (h:zex a t xs)(ha:Fit N a):∀ x∈xs,x<a.next.length:=by
 intro x hx;obtain⟨v,b,rfl⟩:=h.nb.reach x hx;exact zeY ha (fun l hl=>(zD.1 (b l hl)).1) (q:=0) (oH ha.row.2.1)
theorem zex.few (h:zex a t xs)(ha:Fit N a):xs.length<=a.next.length:=zdS h.nb.nd (h.lt ha)
theorem zex.go (h:zex a t xs){x:Nat}(hx:xs[i]?=gO x)(hl:l<6):xs[aGo t i l]?=gO (aGo a x l):=by
 have j:=(kT.1 hx).1;unfold aGo;rw [h.al];cases hb:a.al.toNat.testBit l
 ·rw [if_neg dM,if_neg dM];exact hx
 ·rw [if_pos rfl,if_pos rfl];obtain⟨r,d,-,f⟩:=h.nb.done i x (by rw [h.len];exact j) hx;obtain⟨m,g,h5⟩:=f (place a.al.toNat l) l (zfC hb 6 hl);have b:t.next.getD i []=r:=by rw [dF,d];rfl
  have c:r.getD (place a.al.toNat l) 0=(m:Int):=by rw [dF,g];rfl
  rw [b,c,eT,h5];unfold aGo;rw [if_pos hb]
theorem zex.run (h:zex a t xs):∀ (n:Nat) (v:List Nat),v.length=n->(∀ l∈v,l<6)->xs[zaO t 0 v]?=gO (zaO a 0 v):=by
 intro n
 induction n with
 |zero =>
  intro v hl _;obtain rfl:=List.eq_nil_of_length_eq_zero hl;exact h.nb.x0
 |succ n ih =>
  intro v hl hv;rcases zaf v with rfl|⟨w,l,rfl⟩
  ·simp at hl
  rw [zaY,zaY];exact h.go (ih w (by simpa using hl) (fun x hx=>hv x (by simp [hx]))) (hv l sM)
theorem zex.acc_ (h:zex a t xs){x:Nat}(hx:xs[i]?=gO x):zaC t i=zaC a x:=by
 unfold zaC;rw [h.acc,dF,eC,hx];rfl
theorem zex.acc_run (h:zex a t xs){v:List Nat}(hv:∀ l∈v,l<6):zaC t (zaO t 0 v)=zaC a (zaO a 0 v):=h.acc_ (h.run _ v rfl hv)
end
def TrK (b0 g:Nat) (a:Aut) (f:Int->Option Nat):zbs:=fun _ W S =>
 (∀ n x,f n=gO x↔(n=(x:Int)/\x<a.next.length))/\(∀ k,¬ S k)/\b0<=W.heap.size/\g<b0/\∃ (U:Option Addr) (n uc lo hi:Nat),Blk W g 148 #[fQ U n uc]/\n=a.next.length/\TbAt W lo hi U a/\hi<=b0
theorem TrK.ok (b0 g:Nat) (a:Aut) (f:Int->Option Nat):zbs.Ok b0 (TrK b0 g a f):=by
 refine⟨fun h k hk=>absurd hk (h.2.1 k),fun h k hk=>absurd hk (h.2.1 k),fun h hf hT=>?_,fun h _=>h⟩;obtain⟨b,c,d,i,U,n,q,p,o,h5,j,l,m⟩:=h;exact⟨b,c,dW d hf.size,i,U,n,q,p,o,h5.frm hf (fun e=>by have:=(hT g oM e).1;omega),j,Reads.frm l hf (fun k hk1 hk2 e=>by have:=(hT k oM e).1;omega),m⟩
theorem trim_step {B:Nat}{f:Int->Option Nat}{n:Int}{x:Nat}(h:TrK b0 g a f B W S)(hn:f n=gO x)(hv:Fit N a)(hl:l<6) :
  Calls kN 268 (#[.int kA n,.int kA (l:Nat)]++#[.pointer (gO g)]) W (RetNext (TrK b0 g a) (aGo a) f B S W x l):=by
 obtain⟨b,i,o,p,U,m,v,u,r,h5,j,c,q⟩:=h;obtain⟨rfl,k⟩:=(b n x).1 hn;have d:=aGo_ltF hv k hl;obtain⟨D,E,rfl,C⟩:=c.at_ k hl;have zku:=za (show RetNext (TrK b0 g a) (aGo a) f B S W x l (kP (.int kA (aGo a x l:Nat))) W from
  ⟨f,_,S,rfl,SubF.refl f,(b _ _).2 ⟨rfl,d⟩,Kp.refl ⟨b,i,o,p,_,m,v,u,r,h5,j,c,q⟩⟩)
 have z:=h5.cell;have t:(x:Int)<(m:Int):=by rw [j];omega
 have s:(l:Int)<6:=oM;clear b i h5 c hn;generalize aGo a x l=y at *;show Calls kN 268 #[.int kA (x:Nat),.int kA (l:Nat),.pointer (gO g)] W _
 go_enter Tryz.func268,Tryz.ntmps268
 go_wp2_with fail
 go_ret;exact zku.out
def stF (N:Nat) (n:Int):Option Nat:=if 0<=n/\n<(N:Int) then gO n.toNat else gP
theorem stF_iff (n:Int) (x:Nat):stF N n=gO x↔(n=(x:Int)/\x<N):=by
 unfold stF;constructor
 ·intro h
  split at h
  ·rename_i h1;have:=kS h;omega
  ·cases h
 ·rintro ⟨rfl,h⟩;rw [if_pos oM,eT]
theorem TrK.start {U:Option Addr}{uc:Nat}(hb:Blk w g 148 #[fQ U a.next.length uc])(hU:TbO w U uc a)(hx:Ext w W) (B:Nat):TrK w.heap.size g a (stF a.next.length) B W (fun _=>False):=by
 obtain⟨b,c⟩:=hU;exact⟨stF_iff,fun _ h=>h,hx.size,hb.lt,U,_,uc,b,w.heap.size,hb.ext hx,rfl,Reads.ext (eQ c) hx,dD _⟩
def RetTrim (w:kJ) (a:Aut) (e:Ending) (w':kJ):Prop:=
 ∃ (t:Aut) (xs:List Nat) (A:Option Addr) (n c:Nat) (A':Option Addr) (n' c':Nat),e=kP (kO #[t.al,fQ A n c,fQ A' n' c'])/\zM w' w.heap.size A n c A' n' c' t/\zex a t xs/\Ext w w'
theorem impl_trimF {lo hi NN:Nat}{B:Option Addr}{m d:Nat}{B':Option Addr}{m' d':Nat}(h:zF w lo hi B m B' m' a)(hv:Fit NN a)(hNN:NN<=100) :
  Calls kN 193 #[kO #[a.al,fQ B m d,fQ B' m' d']] w (RetTrim w a):=by
 obtain⟨⟨aP,aQ⟩,⟨n1,bN⟩,Z,-⟩:=hv.row;obtain⟨al,T⟩:∃ al:Nat,Hid (a.al=al):=⟨a.al.toNat,by unfold Hid;omega⟩;have a6:Sm al:=by have:=T.out;unfold Sm;omega
 have aO:=za (show letters al 6=letters a.al.toNat 6 by rw [T.out];rfl);have HA:=za (fun W (hW:Ext w W)=>h.ext hW);have Hv:=za hv;have a4:=za h.n2;have an:=za Z;clear h hv aP aQ Z
 go_enter Tryz.func193,Tryz.ntmps193
 go_upto_region 1 with fail
 generalize U0:(w.alloc _).alloc _=w0 at *;obtain⟨Y,b1,b2⟩:=Ext.x2_ U0;clear U0;have CA:=b1.cells;have aD:=dB w0;go_upto_region 2 with (first
  |(go_at_call 119;refine (zgb (HA.out _ Y) Hv.out hNN).mono ?_;rintro e w1 ⟨U,uc,rfl,⟨bU,-,aw⟩,aE⟩;have hU:TbO w1 U uc a:=⟨bU,aw⟩;clear aw))
 have u:=(dB w1).alloc (.cells #[fQ U a.next.length uc] 148);have ax:=hU.ext u;have J:=aE.trans u;clear hU aE u;generalize U0:w1.alloc _=z at *;have b3:=Ext.bl_ U0;have bs:w1.heap.size<z.heap.size:=by rw [<- U0];simp
 clear U0;generalize w1.heap.size=g3 at *;have aa:=b2.ext J;have I:=za (show a.next.length<=100 by omega);have R:=za n1;have ag:=za (fun W (hW:Ext z W) (AL:Option Addr) (cL bL:Nat) (ho:W.ownsRow bL 3 1 (.slice AL (letters al 6).length cL) (letters al 6).length (zag (letters al 6))) =>
  zjM (K:=TrK z.heap.size g3 a) (D:=aGo a) (LL:=letters al 6) (x0:=0) (n0:=0) (lim:=a.next.length) (Bm:=1000) (B0:=0) (b0:=z.heap.size) (kn:=268) (cap:=#[.pointer (gO g3)]) (S0:=fun _=>False) (f0:=stF a.next.length) (w:=W)
   (TrK.ok z.heap.size g3 a) (fun f B W S h n m x M h2=>by rw [((h.1 n x).1 M).1,((h.1 m x).1 h2).1]) (fun f B W S h n x M=>by have:=(h.1 n x).1 M;unfold domZ;omega)
   (fun _ _=>rfl) (fun f B W S n x l hK _ hf hl=>trim_step hK hf Hv.out (zD.1 hl).1)
   (TrK.start b3 ax hW 0) ((stF_iff 0 0).2 ⟨rfl,oH R.out⟩) hW.size ho (fun _ _ h=>h) (zB al 6) R.out (oH I.out) (oH I.out))
 have aN:∀ W,Ext z W->∀ q,W.cell? ⟨w.heap.size,q,gP⟩=#[Value.int kA al,fQ B m d,fQ B' m' d'][q]?:=fun W hW=>by
  have:=CA W (J.trans hW);rwa [T.out] at this
 have C3:=b3.cells;obtain⟨N,hN⟩:∃ N,Hid (a.next.length=N):=⟨_,rfl⟩;rw [hN.out] at ag C3;clear CA aD b1 b2 b3 ax;have a9:=dB z
 go_cut [4,5] (fun v4 v5 wx=>∃ (c:List Nat) (g:List (List Int)) (A4:Option Addr) (c4:Nat) (r:Option Addr) (s:Nat),v4=fQ A4 c.length c4/\v5=fQ r c.length s/\Hid (NbI (aGo a) (letters al 6) 0 c g [])/\Hid (g.length=c.length)/\wx.ownsRow z.heap.size 3 1 (fQ A4 c.length c4) c.length (zag c)/\zfg wx z.heap.size (fQ r c.length s) g/\Ext z wx)
 case first =>
  have y:Ext z z.drew:=a9.drew;refine uR (fun X=>Ext z X) [6] (zx.of [0,1,3,4,5,2,6,7,8,9,10,11,12,13]) ?_;refine uQ ?_;refine ze fun K hK=>?_;go_simp;refine (zah al a6 _).mono ?_;rintro e w3 ⟨AL,cL,rfl,aG,ba⟩;have E:=y.trans ba;refine hK.out _ _ E ?_;refine pT ?_;refine zb fun K hK=>?_;go_simp;refine (ag.out w3 E AL cL _ aG).mono ?_;rintro e w4 ⟨f,Bx,S',aB,ak,bI,aj⟩;have aF:Ext z w4:=ak.toExt E (fun k hk=>hk.elim);have az:=ak.j.1;rcases aj with ⟨rfl,c,M,h2,h3⟩|⟨A4,c4,r,s,ns,c,g,rfl,M,h2,h3,⟨h4,h5⟩,h6,h7⟩
  ·exfalso;have:=zdS (p:=a.next.length) M (fun x O=>by
    obtain⟨v,h4,rfl⟩:=h3 x O;exact zeY Hv.out (fun l hl=>(zD.1 (h4 l hl)).1) (q:=0) (oH R.out))
   have:=hN.out;omega
  have aA:ints ns=zag c:=by
   refine iR fun j=>?_;unfold ints zag;rw [eC,eC];cases hj:ns[j]? with
   |none=>rw [eJ (by have:=List.getElem?_eq_none_iff.1 hj;omega)];rfl
   |some n =>
    obtain⟨x,O,hf⟩:=h5 j n hj;rw [O,((az n x).1 hf).1];rfl
  rw [aA] at h6;have ae:=E.size;have zku:=za (And.intro (zn h6 ae) (And.intro (h7.less ae) aF));have hI:=za h2;have V:=za h3;clear aB ak az M h2 h3 h4 h5 h6 h7 aA;refine hK.out _ _ ?_;refine pT ?_;refine uQ ?_;refine zg ?_;go_wp2_with fail
  go_meet;exact⟨c,g,A4,c4,r,s,rfl,rfl,hI,V,zku.out.1,zku.out.2.1,zku.out.2.2⟩
 case rest =>
 obtain⟨c,g,A4,c4,r,s,rfl,rfl,hI,V,o4,o5,L⟩:=hcut;clear ag C3;go_upto_region 4 with fail
 have bG:=eO wc 27 #[al,fQ r c.length s,()];have u:=(dB wc).alloc (.cells #[al,fQ r c.length s,()] 27);have ab:=za (show ∀ x∈c,x<a.next.length from fun x O=>by
  obtain⟨v,h4,rfl⟩:=hI.out.reach x O;exact zeY Hv.out (fun l hl=>(zD.1 (h4 l hl)).1) (q:=0) (oH R.out))
 have bt:c.length<=100:=by
  have:=zdS hI.out.nd ab.out;have:=I.out;omega
 have bg:=zh o4 u;obtain⟨G,hG⟩:∃ G,Hid (wc.heap.size=G):=⟨_,za rfl⟩;rw [hG.out] at bG;have au:wc.heap.size<=G:=oH hG.out;rw [hG.out];generalize wc.alloc _=w6 at *;go_wp2_with fail
 go_loopw [29] (fun iv wr=>∃ (i:Nat) (vA:kL),iv=.int kA i/\i<=c.length/\Blk wr G 27 #[al,fQ r c.length s,vA]/\wr.ownsRow wc.heap.size 4 1 vA i (zae ((c.take i).map (zaC a)))/\Ext wc wr) (fun iv _=>c.length - (intOf iv).toNat)
 case atStart=>exact⟨0,_,rfl,Nat.zero_le _,bG,World.ownsRow_nil _ _ _ _,u⟩
 case round =>
  clear bG u bg;obtain⟨i,vA,rfl,hi,hB,H,t⟩:=hrel
  by_cases hlt:i<c.length
  ·have bq:(i:Int)<(c.length:Int):=oM;obtain⟨x,O⟩:∃ x,c[i]?=gO x:=⟨_,dE hlt⟩;have bd:=ab.out x (dC O);obtain⟨g4,rfl,-,-⟩:=zW o4 oM;have ah:=zcv (zh o4 t) hlt;rw [dF,O,fO] at ah;have a3:x<m':=by rw [a4.out,an.out];exact bd
   obtain⟨ad,bb,rfl,-,-,hb,cb⟩:=(HA.out wr (Y.trans (J.trans (L.trans t)))).2.2.bool a3;have br:(x:Int)<(m':Int):=oM;have K4:∀ W,Ext wr W->W.cell? ⟨g4,i,gP⟩=gO (.int kA (x:Nat)):=fun W hW=>hW.aa ah;have KB:∀ W,Ext wr W->W.cell? (ad.add x)=gO (.bool bb):=fun W hW=>hW.aa cb;have KA:=fun W (hW:Ext wr W)=>aN W (L.trans (t.trans hW));have KG:=hB.cells;have a7:=za (show zae ((c.take (i+1)).map (zaC a))=zae ((c.take i).map (zaC a))++[.bool bb] by
    have a0:zaC a x=bb:=by unfold zaC;rw [dF,hb.out];rfl
    rw [List.take_add_one,O,Option.toList_some,eU,List.map_singleton,a0];simp [zae])
   have aC:=dB wr;clear ah cb O hb;go_wp2_with fail
   refine uR (fun X=>Ext wr X) [8,10] (zx.of [0,1,2,3,4,5,6,7,8,9,10]) ?_;refine uQ ?_;have y:=aC.drew;generalize wr.drew=wd at *;refine ze fun K hK=>?_;go_simp;refine hK.out _ _ (y.alloc _) ?_;refine pT ?_;refine zb fun K hK=>?_;have o:=zh H y;refine zaB wc wd _ _ _ rfl 4 _ 1 1 Tryz.underlying25 zaW rfl dM vA i (zae ((c.take i).map (zaC a))) _ _ rfl rfl (t.trans y).size o rfl (by simp [Value.oneCell']) lM oM ?_;intro g8 cap8 w8 hown8 hg8 hat8 hlt8;refine hK.out _ _ ?_;refine pT ?_;refine uQ ?_;have F:=hB.ext y;have Q:Blk w8 G 27 #[.int kA al,fQ r c.length s,vA]:=(hg8.block G F.lt (fun e=>zq o F dM e.symm rfl)).trans F;have bJ:g8≠G:=by
    rcases hat8 with M|M
    ·exact zq o F dM M
    ·have:=F.lt;omega
   have k8:=Q.cell 2;have f8:=Q.frozen 2;have bc:=za (((t.trans y).grown hg8 (fun k hk=>(o.lt k hk).1)).setCell (p:=⟨G,2,gP⟩) au (fQ (gO g8) (i+1) cap8));have aX:=za (show Blk (w8.setCell ⟨G,2,gP⟩ (fQ (gO g8) (i+1) cap8)) G 27 #[al,fQ r c.length s,fQ (gO g8) (i+1) cap8] by simpa using Q.ab 2 (fQ (gO g8) (i+1) cap8));have a5:=za (zf hown8 (dG w8 G 2 (fQ (gO g8) (i+1) cap8)) (fun b hv hS=>by
    have:g8=b:=by simpa [Value.ownBlock] using hv
    omega))
   clear hown8 hg8 hat8 o H hB F Q K4 KB KA KG;refine zb fun K hK=>?_;go_simp;refine hK.out _ _ ?_;refine zg ?_;clear k8 f8;go_wp2_with fail
   go_roundw
   case rel=>exact⟨i+1,_,gM,oM,aX.out,by rw [a7.out];exact a5.out,bc.out⟩
   case measure=>exact uM
  ·obtain rfl:i=c.length:=oM;rw [List.take_length] at H;obtain⟨AA,cA,rfl⟩:=zi H;have C:=aa.ext (L.trans t);have kz:=C.cell;have fz:=C.frozen;have kG:=hB.cell;have hZ:=aa.lt;have ay:=zM.keep (show zM wr z.heap.size r c.length s AA c.length cA ⟨a.al,g,c.map (zaC a)⟩ from ⟨o5.ext t,V.out.symm,zn H L.size,sM⟩) (zP wr (w.heap.size+1) (.int kA al) (fQ r c.length s) (fQ AA c.length cA)) (fun b hb e=>oM);have a8:=za (show zex a ⟨a.al,g,c.map (zaC a)⟩ c from ⟨rfl,by rw [<- aO.out];exact hI.out,V.out,rfl⟩);have be:=za ((Y.trans (J.trans (L.trans t))).frm (zP wr (w.heap.size+1) (.int kA al) (fQ r c.length s) (fQ AA c.length cA)) (fun k hk e=>oM));have a2:=za (zab C rfl (.int kA al) (fQ r c.length s) (fQ AA c.length cA));have zku:=za (show RetTrim w a (kP (kO #[al,fQ r c.length s,fQ AA c.length cA])) _ from ⟨⟨a.al,g,c.map (zaC a)⟩,c,r,c.length,s,AA,c.length,cA,by rw [<- T.out],ay.less (by have:=Y.size;have:=J.size;omega),a8.out,be.out⟩);clear ay C H hB;go_wp2_with fail
   have cf:=a2.out.cell;exact bodyPost_ret (v:=kO #[al,fQ r c.length s,fQ AA c.length cA]) (by simp [results,Tryz.results193,go_sem,cf]) rfl zku.out
theorem zex.fit {t:Aut}{xs:List Nat}(h:zex a t xs)(ha:Fit N a):Fit N t:=by
 obtain⟨⟨i,n⟩,⟨B,v⟩,-,-⟩:=ha.row;have z:=h.few ha;have y:1<=xs.length:=by have:=(kT.1 h.nb.x0).1;omega
 refine⟨by rw [h.al];exact⟨i,n⟩,⟨by rw [h.len];omega,by rw [h.len];omega⟩,by rw [h.acc,List.length_map,h.len],fun j row hj=>?_⟩;have b:=(kT.1 hj).1;obtain⟨x,u⟩:∃ x,xs[j]?=gO x:=⟨_,dE (by rw [<- h.len];exact b)⟩;obtain⟨r,d,f,o⟩:=h.nb.done j x b u;rw [hj] at d;obtain rfl:=kS d;rw [h.al];refine⟨f,fun q hq=>?_⟩;obtain⟨k,g⟩:=eN hq;have c:=(kT.1 g).1;obtain⟨l,s⟩:∃ l,(letters a.al.toNat 6)[k]?=gO l:=⟨_,dE (by rw [<- f];exact c)⟩;obtain⟨m,h5,p⟩:=o k l s;rw [g] at h5;obtain rfl:=kS h5;have:=(kT.1 p).1;rw [h.len];omega
theorem zeb (W:kJ) (h:base<=W.heap.size):∃ wb:kJ,wb.heap.size=base/\Ext wb W:=by
 refine⟨{ W with heap:=W.heap.extract 0 base },by simp;omega,⟨rfl,rfl,rfl,by simp;omega,fun k hk _=>?_⟩⟩
 have a:k<base:=by simp at hk;omega
 show W.heap[k]?=(W.heap.extract 0 base)[k]?;rw [Array.getElem?_extract];simp only [Nat.sub_zero,Nat.zero_add];rw [if_pos oM]
structure zfv (W:kJ) (S:Nat->Prop) (base N G:Nat) (al:Int) (v:kL) (ls:List (List Int)) (vA:kL) (acc:List Bool):Prop where
 gra:∃ wb:kJ,wb.heap.size=base/\Gra wb W G al v ls vA acc/\∃ rows,W.ownsRow base 110 1 v ls.length rows/\zC W base rows ls/\∀ (i:Nat) (r:kL) (b:Nat),rows[i]?=gO r->r.ownBlock=gO b->¬ S b/\b<N
 fG:¬ S G
 fv:∀ b,v.ownBlock=gO b->¬ S b
 fA:∀ b,vA.ownBlock=gO b->¬ S b
section
variable {J:zbs}{B b0 base N G:Nat}{S S':Nat->Prop}{W W':kJ}{al:Int}{v vA:kL}{ls:List (List Int)}{acc:List Bool}
theorem zfv.blk (h:zfv W S base N G al v ls vA acc):Blk W G 27 #[.int kA al,v,vA]:=by
 obtain⟨b,rfl,a,-⟩:=h.gra;exact a.blk
theorem zfv.frmT {T:Nat->Prop}(h:zfv W S base N G al v ls vA acc)(hf:Frm T W W')(hT:∀ b,b<W.heap.size->T b->S b\/(∀ (t:TypeId) (cs:Array kL),Blk W b t cs->t≠27/\t≠110/\t≠4/\t≠3))(hS:∀ b,b<W.heap.size->¬ S b->¬ S' b):zfv W' S' base N G al v ls vA acc:=by
 obtain⟨s,rfl,f,d,m,o,p⟩:=h.gra;obtain⟨wc,c,q⟩:=zeb W' (base:=s.heap.size) (dW f.ext.size hf.size);have C:¬ T G:=fun ht=>by
  rcases hT G f.blk.lt ht with j|j
  ·exact h.fG j
  ·exact (j _ _ f.blk).1 rfl
 have a:∀ {e:TypeId} {size n:Nat} {u:kL} {xs:List kL},W.ownsRow s.heap.size e size u n xs->(e=110\/e=4\/e=3)->(∀ b,u.ownBlock=gO b->¬ S b)->∀ b,u.ownBlock=gO b->¬ T b:=fun k he hs b hb ht=>by
  rcases hT b (k.lt b hb).2 ht with j|j
  ·exact hs b hb j
  ·rcases k.2 with ⟨h5,_⟩|⟨g,z,B,h5,_,D,_⟩
   ·rw [h5] at hb;simp [Value.ownBlock] at hb
   ·rw [h5] at hb;have:g=b:=by simpa [Value.ownBlock] using hb
    subst this;have:=j _ _ D;rcases he with rfl|rfl|rfl
    ·exact this.2.1 rfl
    ·exact this.2.2.1 rfl
    ·exact this.2.2.2 rfl
 have x:=zf m hf (a m (.inl rfl) h.fv);have y:zC W' s.heap.size d ls:=o.frm hf (fun i r b hr hb=>by
  obtain⟨l,_,k⟩:=o.row hr;exact a k (.inr (.inr rfl)) (fun b hb=>(p i r b hr hb).1) b hb)
 have E:=zf f.acc hf (a f.acc (.inr (.inl rfl)) h.fA);refine⟨⟨wc,c,⟨f.blk.frm hf C,⟨d,by rw [c];exact x,by rw [c];exact y⟩,by rw [c];exact E,q,by rw [c];exact f.hG⟩,d,x,y,fun i r b hr hb=>?_⟩,hS G f.blk.lt h.fG,fun b hb=>hS b (m.lt b hb).2 (h.fv b hb),fun b hb=>hS b (f.acc.lt b hb).2 (h.fA b hb)⟩;obtain⟨l,_,k⟩:=o.row hr;exact⟨hS b (k.lt b hb).2 (p i r b hr hb).1,(p i r b hr hb).2⟩
theorem zfv.kp (h:zfv W S base N G al v ls vA acc) (k:Kp J B S W W' S'):zfv W' S' base N G al v ls vA acc:=h.frmT k.frm (fun _ _ h=>.inl h) (fun _ hb hn=>k.out hb hn)
theorem zfv.ext (h:zfv W S base N G al v ls vA acc)(hx:Ext W W'):zfv W' S base N G al v ls vA acc:=h.frmT hx (fun _ _ h=>h.elim) (fun _ _ hn=>hn)
theorem zfv.grow {u:kL}(h:zfv W S base N G al v ls vA acc)(ho:W.ownsRow N 3 1 u k xs)(hg:W.grownBy W' u.ownBlock):zfv W' S base N G al v ls vA acc:=by
 obtain⟨o,rfl,a,d,j,p,l⟩:=h.gra;have f:Frm (fun k=>u.ownBlock=gO k) W W':=fF hg;obtain⟨wc,c,g⟩:=zeb W' (base:=o.heap.size) (dW a.ext.size f.size);have m:=zf j f (fun b hb e=>zan j ho dM hb e);have n:zC W' o.heap.size d ls:=p.frm f (fun i r b hr hb e=>by
  have s:=(l i r b hr hb).2;have t:=(ho.lt b e).1;omega)
 have q:=zf a.acc f (fun b hb e=>zan a.acc ho dM hb e);exact⟨⟨wc,c,⟨a.blk.frm f (fun e=>zq ho a.blk dM e rfl),⟨d,by rw [c];exact m,by rw [c];exact n⟩,by rw [c];exact q,g,by rw [c];exact a.hG⟩,d,m,n,l⟩,h.fG,h.fv,h.fA⟩
theorem zfv.reN (h:zfv W S base N G al v ls vA acc):zfv W S base W.heap.size G al v ls vA acc:=by
 obtain⟨k,rfl,g,a,d,c,f⟩:=h.gra;refine⟨⟨k,rfl,g,a,d,c,fun i r b hr hb=>⟨(f i r b hr hb).1,?_⟩⟩,h.fG,h.fv,h.fA⟩;obtain⟨l,_,j⟩:=c.row hr;exact (j.lt b hb).2
theorem zfv.push {l:List Int}(h:zfv W S base N G al v ls vA acc) (r1:W.ownsRow base 110 1 v ls.length rows) (r2:zC W base rows ls) (r3:∀ (i:Nat) (r:kL) (b:Nat),rows[i]?=gO r->r.ownBlock=gO b->¬ S b/\b<N)(hN:base<=N)
  (hrow:W.ownsRow N 3 1 row l.length (ints l)) (hrS:∀ b,row.ownBlock=gO b->¬ S b) (hfr:∀ q,W.heap.size<=q->¬ S q)
  (zkr:W'.ownsRow base 110 1 (fQ (gO g) (ls.length+1) cap) (ls.length+1) (rows++[row])) (hg:W.grownBy W' v.ownBlock) (hat:v.ownBlock=gO g\/g=W.heap.size+1) :
  Blk W' G 27 #[al,v,vA]/\zfv (W'.setCell ⟨G,1,gP⟩ (fQ (gO g) (ls.length+1) cap)) S base (W'.setCell ⟨G,1,gP⟩ (fQ (gO g) (ls.length+1) cap)).heap.size G al (fQ (gO g) (ls.length+1) cap) (ls++[l]) vA acc:=by
 obtain⟨s,rfl,a,-⟩:=h.gra;have p:Frm (fun k=>v.ownBlock=gO k) W W':=fF hg;have o:Blk W' G 27 #[.int kA al,v,vA]:=a.blk.frm p (fun e=>zq r1 a.blk dM e rfl);have t:g≠G:=by
  rcases hat with f|f
  ·exact zq r1 a.blk dM f
  ·have:=a.blk.lt;omega
 have m:zC W' s.heap.size (rows++[row]) (ls++[l]):=(r2.snoc2 (fun i r b hr hb=>(r3 i r b hr hb).2) hN hrow).frm p (fun i r b hr hb hS=>by
  obtain⟨z,_,j⟩:=(r2.snoc2 (fun i r b hr hb=>(r3 i r b hr hb).2) hN hrow).row hr;exact zan j r1 dM hb hS)
 have n:=zf a.acc p (fun b hb hS=>zan a.acc r1 dM hb hS);have c:=dG W' G 1 (fQ (gO g) (ls.length+1) cap);have C:(ls++[l]).length=ls.length+1:=sM;have B:(W'.setCell ⟨G,1,gP⟩ (fQ (gO g) (ls.length+1) cap)).ownsRow s.heap.size 110 1 (fQ (gO g) (ls.length+1) cap) (ls++[l]).length (rows++[row]):=by
  rw [C];exact zf zkr c (fun b hb e=>by obtain rfl:=zfr hb;exact t e)
 have x:zC (W'.setCell ⟨G,1,gP⟩ (fQ (gO g) (ls.length+1) cap)) s.heap.size (rows++[row]) (ls++[l]):=m.frm c (fun i r b hr hb hS=>by
  obtain⟨z,_,j⟩:=m.row hr;exact zq j o dM hb hS)
 have D:=zf n c (fun b hb hS=>zq n o dM hb hS);obtain⟨wc,d,u⟩:=zeb (W'.setCell ⟨G,1,gP⟩ (fQ (gO g) (ls.length+1) cap)) (base:=s.heap.size) (by have f:=a.ext.size;have y:=p.size;have E:=c.size;omega);refine⟨o,⟨⟨wc,d,⟨by simpa using o.ab 1 (fQ (gO g) (ls.length+1) cap),⟨rows++[row],by rw [d];exact B,by rw [d];exact x⟩,by rw [d];exact D,u,by rw [d];exact a.hG⟩,rows++[row],B,x,fun i r b hr hb=>?_⟩,h.fG,fun b hb=>?_,h.fA⟩⟩
 ·obtain⟨z,_,j⟩:=x.row hr;refine⟨?_,(j.lt b hb).2⟩;rcases e7 i rows.length with f|f
  ·rw [dJ f] at hr;exact (r3 i r b hr hb).1
  ·rw [eD f] at hr;have y:i - rows.length=0:=by
    have:=(kT.1 hr).1;simp at this;omega
   rw [y] at hr;obtain rfl:row=r:=by simpa using hr
   exact hrS b hb
 ·obtain rfl:=zfr hb;rcases hat with e|e
  ·exact h.fv _ e
  ·exact hfr _ oM
theorem zfv.pushA (h:zfv W S base N G al v ls vA acc)(hfr:∀ q,W.heap.size<=q->¬ S q)
  (zkr:W'.ownsRow base 4 1 (fQ (gO g) (acc.length+1) cap) (acc.length+1) (zae acc++[.bool x])) (hg:W.grownBy W' vA.ownBlock) (hat:vA.ownBlock=gO g\/g=W.heap.size+1) :
  Blk W' G 27 #[al,v,vA]/\zfv (W'.setCell ⟨G,2,gP⟩ (fQ (gO g) (acc.length+1) cap)) S base N G al v ls (fQ (gO g) (acc.length+1) cap) (acc++[x]):=by
 obtain⟨m,rfl,a,d,y,z,F⟩:=h.gra;have l:Frm (fun k=>vA.ownBlock=gO k) W W':=fF hg;have j:Blk W' G 27 #[.int kA al,v,vA]:=a.blk.frm l (fun e=>zq a.acc a.blk dM e rfl);have o:g≠G:=by
  rcases hat with n|n
  ·exact zq a.acc a.blk dM n
  ·have:=a.blk.lt;omega
 have t:=zf y l (fun b hb hS=>zan y a.acc dM hb hS);have u:zC W' m.heap.size d ls:=z.frm l (fun i r b hr hb hS=>by
  obtain⟨E,_,p⟩:=z.row hr;exact zan p a.acc dM hb hS)
 have c:=dG W' G 2 (fQ (gO g) (acc.length+1) cap);have D:(acc++[x]).length=acc.length+1:=sM;have B:=zf t c (fun b hb hS=>zq t j dM hb hS);have C:zC (W'.setCell ⟨G,2,gP⟩ (fQ (gO g) (acc.length+1) cap)) m.heap.size d ls:=u.frm c (fun i r b hr hb hS=>by
  obtain⟨E,_,p⟩:=u.row hr;exact zq p j dM hb hS)
 have H:(W'.setCell ⟨G,2,gP⟩ (fQ (gO g) (acc.length+1) cap)).ownsRow m.heap.size 4 1 (fQ (gO g) (acc.length+1) cap) (acc++[x]).length (zae (acc++[x])):=by
  rw [D,show zae (acc++[x])=zae acc++[.bool x] by simp [zae]];exact zf zkr c (fun b hb e=>by obtain rfl:=zfr hb;exact o e)
 obtain⟨wc,f,s⟩:=zeb (W'.setCell ⟨G,2,gP⟩ (fQ (gO g) (acc.length+1) cap)) (base:=m.heap.size) (by have n:=a.ext.size;have I:=l.size;have J:=c.size;omega);refine⟨j,⟨⟨wc,f,⟨by simpa using j.ab 2 (fQ (gO g) (acc.length+1) cap),⟨d,by rw [f];exact B,by rw [f];exact C⟩,by rw [f];exact H,s,by rw [f];exact a.hG⟩,d,B,C,F⟩,h.fG,h.fv,fun b hb=>?_⟩⟩;obtain rfl:=zfr hb;rcases hat with e|e
 ·exact h.fA _ e
 ·exact hfr _ oM
theorem zfv.own (h:zfv W S base N G al (fQ A n c) ls (fQ A' n' c') acc):zM W base A n c A' n' c' ⟨al,ls,acc⟩:=by
 obtain⟨p,rfl,b,d,k,m,o⟩:=h.gra;have hn:n=ls.length:=by
  rcases k.2 with ⟨a,l⟩|⟨g,f,i,a,_⟩
  ·injection a with _ h3;omega
  ·injection a
 have j:n'=acc.length:=by
  rcases b.acc.2 with ⟨a,l⟩|⟨g,f,i,a,_⟩
  ·injection a with _ h3;omega
  ·injection a
 subst hn;subst j;exact⟨⟨d,k,m⟩,rfl,b.acc,rfl⟩
end
theorem gra_first {G:Nat}{al:Int}(hx:Ext w W)(hb:Blk W G 27 #[al,(),()])(hG:w.heap.size<=G)(hS:¬ S G):zfv W S w.heap.size W.heap.size G al (fQ gP 0 0) [] (fQ gP 0 0) []:=
 ⟨⟨w,rfl,⟨hb,⟨[],World.ownsRow_nil _ _ _ _,zC.nil _ _⟩,World.ownsRow_nil _ _ _ _,hx,hG⟩,[],World.ownsRow_nil _ _ _ _,zC.nil _ _,fun i r b hr=>by simp at hr⟩,hS,fun b hb=>by simp [Value.ownBlock] at hb,fun b hb=>by simp [Value.ownBlock] at hb⟩
end Go.Proofs.YtckbjnndaaoddaaGreatDoor
