/- The rows of -/
import Derived.Test.YtckbjnndaaoddaaGreatDoorY11
set_option maxHeartbeats 2000000
set_option maxRecDepth 100000
namespace Go.Proofs.YtckbjnndaaoddaaGreatDoor
open Go Go.RowKit
open Blk renaming new->eX
open Bool renaming and_eq_true->eD,eq_false_iff->fT,eq_iff_iff->jC,not_eq_false->j7,not_eq_true'->iR,or_eq_true->iC
open Ext renaming refl->dE
open Frm renaming ae->fV,setCell->eB
open Int renaming toNat_natCast->fF
open List renaming all_eq_true->fH,append_nil->gS,eq_nil_of_length_eq_zero->eJ,ext_getElem?->jA,filter_append->iW,filter_cons_of_neg->fY,filter_cons_of_pos->fK,filter_nil->j2,getD_eq_getElem?_getD->eE,getElem?_append_left->eH,getElem?_append_right->eN,getElem?_eq_getElem->dH,getElem?_eq_none->eR,getElem?_map->eM,length_append->eK,length_singleton->eY,map_append->fO,mem_cons_of_mem->eZ,mem_cons_self->iG,mem_of_getElem?->dG,take_add_one->eG,take_of_length_le->eF
open Nat renaming eq_of_testBit_eq->gY,le_refl->dI,le_trans->eI,lt_of_lt_of_le->eV,lt_or_eq_of_le->fC,lt_or_ge->fM,or_lt_two_pow->e7,pow_le_pow_right->e6,testBit_and->iE,testBit_or->iM,zero_le->eC,zero_testBit->jM
open Option renaming toList_some->e8
open Reads renaming af->eW
variable {A A':Option Addr} {G K Z base c c' cap g i j k n n' q size:Nat} {S S1 S5:Nat->Prop} {T:List Nat} {W W' W1 W2 w w0 w5:World} {a:Aut} {al st:Int} {cs rs:List ByteArray} {e:TypeId} {es:List Edg} {l:List Int} {row u0 u1 v v0:Value} {rows xs:List Value} {s t:Sys} {ss ts:List Sys} {x:Bool}
def nxC (n:Nat) (nx:Nat->Nat->Int):List Value:=ints ((List.range (n*6)).map fun i=>nx (i / 6) (i % 6))
theorem zcq (n:Nat) (nx:Nat->Nat->Int):(nxC n nx).length=n*6:=by simp [nxC,ints]
theorem zfw {l:Nat} {nx:Nat->Nat->Int}(hq:q<n)(hl:l<6):(nxC n nx)[q*6+l]?=some (.int .i64 (nx q l)):=by
 unfold nxC ints;rw [eM,eM,List.getElem?_range oM];simp only [Option.map_some];rw [show (q*6+l) / 6=q by omega,show (q*6+l) % 6=l by omega]
theorem nxC_set {l:Nat} {nx:Nat->Nat->Int} {v:Int}(hq:q<n)(hl:l<6):(nxC n nx).set (q*6+l) (.int .i64 v)=nxC n (fun k' l'=>if k'=q∧l'=l then v else nx k' l'):=by
 refine jA fun i=>?_;rw [List.getElem?_set];rw [zcq]
 by_cases hi:i<n*6
 ·obtain⟨a,b,c,rfl⟩:∃ a b,b<6∧i=a*6+b:=⟨i / 6,i % 6,oM,oM⟩;rw [zfw (show a<n by omega) c,zfw (show a<n by omega) c]
  by_cases e:q*6+l=a*6+b
  ·have h1:a=q:=oM;have h2:b=l:=oM;rw [if_pos e,if_pos oM,if_pos ⟨h1,h2⟩]
  ·rw [if_neg e,if_neg oM]
 ·rw [eR (by rw [zcq];omega),eR (by rw [zcq];omega)]
  by_cases e:q*6+l=i
  ·omega
  ·rw [if_neg e]
theorem nxC_snoc (n:Nat) (nx:Nat->Nat->Int):nxC (n+1) (fun k l=>if k=n then -1 else nx k l)=nxC n nx++[.int .i64 (-1),.int .i64 (-1),.int .i64 (-1),.int .i64 (-1),.int .i64 (-1),.int .i64 (-1)]:=by
 refine jA fun i=>?_
 by_cases hi:i<n*6
 ·obtain⟨a,b,c,rfl⟩:∃ a b,b<6∧i=a*6+b:=⟨i / 6,i % 6,oM,oM⟩;rw [eH (by rw [zcq];exact hi),zfw (show a<n+1 by omega) c,zfw (show a<n by omega) c,if_neg oM]
 ·rw [eN (by rw [zcq];omega),zcq]
  by_cases h2:i<(n+1)*6
  ·obtain⟨b,c,rfl⟩:∃ b,b<6∧i=n*6+b:=⟨i - n*6,oM,oM⟩;rw [zfw oM c,if_pos rfl,Nat.add_sub_cancel_left];have:∀ b<6,([Value.int .i64 (-1),.int .i64 (-1),.int .i64 (-1),.int .i64 (-1),.int .i64 (-1),.int .i64 (-1)]:List Value)[b]?=some (.int .i64 (-1)):=by
    intro b c
    match b,c with
    |0,_=>rfl
    |1,_=>rfl
    |2,_=>rfl
    |3,_=>rfl
    |4,_=>rfl
    |5,_=>rfl
   rw [this b c]
  ·rw [eR (by rw [zcq];omega),eR (by simp;omega)]
def stC (Ts:List (List Nat)):List Value:=Ts.flatMap zbm
theorem stC_snoc (Ts:List (List Nat)) (T:List Nat):stC (Ts++[T])=stC Ts++zbm T:=by simp [stC]
theorem zeY (hi:i<T.length):(zbm T)[i]?=some (.int .u16 (T.getD i 0:Nat)):=by
 unfold zbm;rw [eM,dH hi,eE,dH hi];rfl
theorem stC_get {Ts:List (List Nat)}(h:∀ T∈Ts,T.length=12)  (hT:Ts[k]?=some T)(hi:i<12):(stC Ts)[k*12+i]?=some (.int .u16 (T.getD i 0:Nat)):=by
 induction Ts generalizing k with
 |nil=>simp at hT
 |cons U r ih =>
  rw [show stC (U :: r)=zbm U++stC r from rfl];have a:=h U sM;cases k with
  |zero =>
   obtain rfl:U=T:=by simpa using hT
   rw [eH (by rw [zbR];omega),Nat.zero_mul,Nat.zero_add,zeY oM]
  |succ k =>
   rw [eN (by rw [zbR,a];omega),zbR,a,show (k+1)*12+i - 12=k*12+i by omega];exact ih (fun V hV=>h V (by simp [hV])) (by simpa using hT)
theorem stC_drop {Ts:List (List Nat)}(h:∀ T∈Ts,T.length=12)  (hT:Ts[k]?=some T):∀ (i:Nat) (u:Value),(zbm T)[i]?=some u->(stC Ts)[k*12+i]?=some u:=by
 intro i u hu;have b:=h T (dG hT);have a:i<T.length:=by have:=(List.getElem?_eq_some_iff.1 hu).1;rw [zbR] at this;exact this
 rw [stC_get h hT oM,← zeY a,hu]
def unC (p:Aut) (Ts:List (List Nat)):List Bool:=Ts.map (badS p)
theorem unC_snoc (p:Aut) (Ts:List (List Nat)) (T:List Nat):unC p (Ts++[T])=unC p Ts++[badS p T]:=by simp [unC]
def NumI (Ts:List (List Nat)) (M:List Nat->Option Nat):Prop:=∀ (T:List Nat) (j:Nat),M T=some j↔Ts[j]?=some T
theorem NumI.nil:NumI [] (fun _=>none):=fun T j=>sM
theorem NumI.add {Ts:List (List Nat)} {M:List Nat->Option Nat}(h:NumI Ts M) (hT:M T=none):NumI (Ts++[T]) (updG M T Ts.length):=by
 have a:∀ i,Ts[i]?≠some T:=fun i e=>by rw [(h T i).2 e] at hT;cases hT
 intro U j;rcases fM j Ts.length with hj|hj
 ·rw [eH hj]
  by_cases e:U=T
  ·subst e;rw [zig];exact⟨fun h1=>by have:=Option.some.inj h1;omega,fun h1=>absurd h1 (a j)⟩
  ·rw [updG_ne M _ e];exact h U j
 ·by_cases e:U=T
  ·subst e;rw [zig];constructor
   ·intro h1;obtain rfl:=Option.some.inj h1;simp
   ·intro h1;have:=(List.getElem?_eq_some_iff.1 h1).1;simp at this;rw [show j=Ts.length by omega]
  ·rw [updG_ne M _ e,h U j,eR hj];constructor
   ·intro h1;cases h1
   ·intro h1;have h2:=(List.getElem?_eq_some_iff.1 h1).1;simp at h2;obtain rfl:j=Ts.length:=oM;simp at h1;exact absurd h1.symm e
structure Sfx where
 s:Sys
 p:Aut
 L:Nat
 A:Option Addr
 n:Nat
 c:Nat
 B:Option Addr
 m:Nat
 d:Nat
 B':Option Addr
 m':Nat
 d':Nat
 mv:Nat
 RA:Option Addr
 rc:Nat
 HA:Option Addr
 hc:Nat
 G:Nat
 mb:Nat
 b0:Nat
 lo:Nat
 w9:World
def hidS (s:Sys) (L:Nat):List Nat:=letters (diff s.al.toNat L) 6
def sfC (F:Sfx) (vs vn vu:Value):Array Value:=
 #[F.s.al,F.s.st,.slice F.A F.n F.c,F.p.al,.slice F.B F.m F.d,.slice F.B' F.m' F.d',F.L,.pointer (some ⟨F.mv,0,none⟩),.slice F.RA F.p.next.length F.rc,.slice F.HA (hidS F.s F.L).length F.hc,vs,.map (some F.mb),vn,vu]
abbrev Sfx.two (F:Sfx) (k:Nat):Prop:=k=F.G∨k=F.mb∨(F.lo<=k∧k<F.b0)
structure SfR (F:Sfx) (W:World):Prop where
 tab:Tab W
 mov:MovAt W F.mv F.s.edges
 rule:∃ lo hi,TbAt W lo hi F.RA F.p
 hid:∃ lo hi,Lst zbq W lo hi F.HA (hidS F.s F.L)
 acc:∃ lo hi,Reads W lo hi 1 F.B' F.m' (zak F.p.acc)
structure ziH (F:Sfx):Prop where
 hs:zk F.s=true
 hp:zj F.p=true
 hL:F.L<64
 red:∀ W,Frm F.two F.w9 W->SfR F W
 lob:F.lo<=F.b0
 b0G:F.b0<=F.G
 Gw:F.G<F.w9.heap.size
 b0m:F.b0<=F.mb
 mw:F.mb<F.w9.heap.size
 ne:F.mb≠F.G
structure zfa (F:Sfx) (Ts:List (List Nat)) (nx:Nat->Nat->Int) (k:Nat) (M:List Nat->Option Nat) (vs vn vu:Value) (W:World):Prop where
 frm:Frm F.two F.w9 W
 blk:Blk W F.G 152 (sfC F vs vn vu)
 sets:W.ownsRow F.w9.heap.size 222 12 vs Ts.length (stC Ts)
 next:W.ownsRow F.w9.heap.size 166 6 vn Ts.length (nxC Ts.length nx)
 uns:W.ownsRow F.w9.heap.size 4 1 vu Ts.length (zak (unC F.p Ts))
 map:zeq 222 litP domP W F.mb k M
 num:NumI Ts M
 le:k<=Ts.length
 ws:∀ T∈Ts,T.length=12
def sfS (F:Sfx) (vs vn vu:Value) (k:Nat):Prop:=(F.b0<=k∧k<F.w9.heap.size)∨vs.ownBlock=some k∨vn.ownBlock=some k∨vu.ownBlock=some k
section
variable {F:Sfx} {Ts:List (List Nat)} {nx:Nat->Nat->Int} {k:Nat} {M:List Nat->Option Nat} {vs vn vu:Value} {W W':World}
theorem zfa.red (h:zfa F Ts nx k M vs vn vu W)(hF:ziH F):SfR F W:=hF.red W h.frm
theorem zfa.frmT {T:Nat->Prop}(h:zfa F Ts nx k M vs vn vu W)(hF:ziH F)(hf:Frm T W W')(hT:∀ j,j<W.heap.size->T j->F.lo<=j∧¬ sfS F vs vn vu j):zfa F Ts nx k M vs vn vu W':=by
 have d:=h.frm.size;have a:∀ {b:Nat},b<W.heap.size->sfS F vs vn vu b->¬ T b:=fun hb hs ht=>(hT _ hb ht).2 hs;refine⟨⟨hf.os.trans h.frm.os,hf.tape.trans h.frm.tape,hf.output.trans h.frm.output,eI d hf.size,fun j hj hn=>?_⟩,h.blk.frm hf (a h.blk.lt (.inl ⟨hF.b0G,hF.Gw⟩)),zf h.sets hf (fun b hb=>a (h.sets.lt b hb).2 (.inr (.inl hb))),
  zf h.next hf (fun b hb=>a (h.next.lt b hb).2 (.inr (.inr (.inl hb)))),zf h.uns hf (fun b hb=>a (h.uns.lt b hb).2 (.inr (.inr (.inr hb)))),h.map.frm hf (a h.map.lt (.inl ⟨hF.b0m,hF.mw⟩)),h.num,h.le,h.ws⟩
 refine (hf.block j oM (fun ht=>?_)).trans (h.frm.block j hj hn);obtain⟨h1,h2⟩:=hT j oM ht;rcases fM j F.b0 with c|c
 ·exact hn (.inr (.inr ⟨h1,c⟩))
 ·exact h2 (.inl ⟨c,hj⟩)
theorem zfa.ext (h:zfa F Ts nx k M vs vn vu W)(hF:ziH F)(hx:Ext W W'):zfa F Ts nx k M vs vn vu W':=h.frmT hF hx (fun _ _ h=>h.elim)
theorem zfa.lt (h:zfa F Ts nx k M vs vn vu W) (hj:sfS F vs vn vu j):j<W.heap.size:=by
 have a:=h.frm.size;rcases hj with hj|hj|hj|hj
 ·omega
 ·exact (h.sets.lt j hj).2
 ·exact (h.next.lt j hj).2
 ·exact (h.uns.lt j hj).2
theorem zfa.low0 (h:zfa F Ts nx k M vs vn vu W)(hF:ziH F) (hj:sfS F vs vn vu j):F.b0<=j:=by
 have h1:=hF.b0G;have h2:=hF.Gw;rcases hj with hj|hj|hj|hj
 ·exact hj.1
 ·have:=(h.sets.lt j hj).1;omega
 ·have:=(h.next.lt j hj).1;omega
 ·have:=(h.uns.lt j hj).1;omega
theorem zfa.low (h:zfa F Ts nx k M vs vn vu W)(hF:ziH F) (hj:sfS F vs vn vu j):F.lo<=j:=eI hF.lob (h.low0 hF hj)
end
structure Kq (S:Nat->Prop) (W W':World) (S':Nat->Prop):Prop where
 frm:Frm S W W'
 new:∀ q,S' q->S q∨W.heap.size<=q
theorem Kq.refl :Kq S W W S:=⟨Frm.refl _ _,fun _ h=>.inl h⟩
theorem Kq.trans {S2:Nat->Prop} (h:Kq S W W1 S1) (k:Kq S1 W1 W2 S2):Kq S W W2 S2:=by
 refine⟨⟨k.frm.os.trans h.frm.os,k.frm.tape.trans h.frm.tape,k.frm.output.trans h.frm.output,eI h.frm.size k.frm.size,fun i hi hn=>?_⟩,fun i hi=>?_⟩
 ·refine (k.frm.block i (eV hi h.frm.size) (fun h1=>?_)).trans (h.frm.block i hi hn);rcases h.new i h1 with h2|h2
  ·exact hn h2
  ·omega
 ·rcases k.new i hi with h1|h1
  ·exact h.new i h1
  ·exact .inr (eI h.frm.size h1)
theorem Kq.ext (h:Kq S W W1 S1)(hx:Ext W1 W2):Kq S W W2 S1:=⟨h.frm.ext hx,h.new⟩
theorem Kq.back (hx:Ext W W1) (k:Kq S W1 W2 S1):Kq S W W2 S1:=
 ⟨⟨k.frm.os.trans hx.os,k.frm.tape.trans hx.tape,k.frm.output.trans hx.output,eI hx.size k.frm.size,fun i hi hn=>(k.frm.block i (eV hi hx.size) hn).trans (hx.block i hi (fun h=>h))⟩,fun i hi=>by
  rcases k.new i hi with h|h
  ·exact .inl h
  ·exact .inr (eI hx.size h)⟩
structure zin (F:Sfx) (Ts:List (List Nat)) (n:Nat) (nx:Nat->Nat->Int) (us:List Bool) (k:Nat) (M:List Nat->Option Nat) (vs vn vu:Value) (W:World):Prop where
 frm:Frm F.two F.w9 W
 blk:Blk W F.G 152 (sfC F vs vn vu)
 sets:W.ownsRow F.w9.heap.size 222 12 vs Ts.length (stC Ts)
 next:W.ownsRow F.w9.heap.size 166 6 vn n (nxC n nx)
 uns:W.ownsRow F.w9.heap.size 4 1 vu us.length (zak us)
 map:zeq 222 litP domP W F.mb k M
section
variable {F:Sfx} {Ts:List (List Nat)} {n:Nat} {nx:Nat->Nat->Int} {us:List Bool} {k:Nat} {M:List Nat->Option Nat} {vs vn vu:Value} {W W':World}
theorem zfa.p (h:zfa F Ts nx k M vs vn vu W):zin F Ts Ts.length nx (unC F.p Ts) k M vs vn vu W:=
 ⟨h.frm,h.blk,h.sets,h.next,by rw [show (unC F.p Ts).length=Ts.length by simp [unC]];exact h.uns,h.map⟩
theorem zin.m (h:zin F Ts Ts.length nx (unC F.p Ts) k M vs vn vu W)(hn:NumI Ts M)(hk:k<=Ts.length)(hw:∀ T∈Ts,T.length=12):zfa F Ts nx k M vs vn vu W:=
 ⟨h.frm,h.blk,h.sets,h.next,by have:=h.uns;rwa [show (unC F.p Ts).length=Ts.length by simp [unC]] at this,h.map,hn,hk,hw⟩
theorem zin.ext (h:zin F Ts n nx us k M vs vn vu W)(hx:Ext W W'):zin F Ts n nx us k M vs vn vu W':=
 ⟨⟨hx.os.trans h.frm.os,hx.tape.trans h.frm.tape,hx.output.trans h.frm.output,eI h.frm.size hx.size,fun j hj hn=>(hx.block j (eV hj h.frm.size) (fun h=>h)).trans (h.frm.block j hj hn)⟩,h.blk.ext hx,zh h.sets hx,zh h.next hx,zh h.uns hx,h.map.ext hx⟩
theorem zin.bh {T:Nat->Prop}(h:zin F Ts n nx us k M vs vn vu W)(hf:Frm T W W')(hT:∀ q,T q->F.two q∨F.w9.heap.size<=q):Frm F.two F.w9 W':=
 ⟨hf.os.trans h.frm.os,hf.tape.trans h.frm.tape,hf.output.trans h.frm.output,eI h.frm.size hf.size,fun j hj hn=>(hf.block j (eV hj h.frm.size) (fun ht=>by
  rcases hT j ht with h1|h1
  ·exact hn h1
  ·omega)).trans (h.frm.block j hj hn)⟩
theorem zin.mapSet {M':List Nat->Option Nat} {k':Nat}(h:zin F Ts n nx us k M vs vn vu W)(hF:ziH F)(hmap:zeq 222 litP domP W' F.mb k' M')(hg:W.grownBy W' (some F.mb)) :
  zin F Ts n nx us k' M' vs vn vu W'∧Kq (sfS F vs vn vu) W W' (sfS F vs vn vu):=by
 have c:Frm (fun q=>q=F.mb) W W':=(fV hg).mono (fun q _ e=>(Option.some.inj e).symm);have a:F.G≠F.mb:=fun e=>hF.ne e.symm;refine⟨⟨h.bh c (fun q e=>.inl (.inr (.inl e))),h.blk.frm c a,zf h.sets c (fun b a e=>by subst e;exact h.map.aj h.sets a),zf h.next c (fun b a e=>by subst e;exact h.map.aj h.next a),zf h.uns c (fun b a e=>by subst e;exact h.map.aj h.uns a),hmap⟩,
  c.mono (fun q _ e=>.inl (by subst e;exact⟨hF.b0m,hF.mw⟩)),fun q hq=>.inl hq⟩
theorem sfC_10 (v:Value):(sfC F vs vn vu).setIfInBounds 10 v=sfC F v vn vu:=by simp [sfC]
theorem sfC_12 (v:Value):(sfC F vs vn vu).setIfInBounds 12 v=sfC F vs v vu:=by simp [sfC]
theorem sfC_13 (v:Value):(sfC F vs vn vu).setIfInBounds 13 v=sfC F vs vn v:=by simp [sfC]
theorem zfj (h:(Value.slice (some g) n cap).ownBlock=some q):q=g:=by simpa [Value.ownBlock] using h.symm
theorem yY12a2 {P:Prop}(h:P:=by
 exact⟨hs.os.trans h5.os,hs.tape.trans h5.tape,hs.output.trans h5.output,Nat.le_trans h5.size hs.size,fun j hj hn=>(hs.block j (Nat.lt_of_lt_of_le hj h5.size) (fun e=>hn (.inl e))).trans (h5.block j hj hn)⟩
 ):P:=h
theorem zin.pushS {U:List Nat} (h:zin F Ts n nx us k M vs vn vu W)(hF:ziH F) (zkf:W'.ownsRow F.w9.heap.size 222 12 (.slice (some g) (Ts.length+1) cap) (Ts.length+1) (stC Ts++zbm U))(hg:W.grownBy W' vs.ownBlock)(hat:vs.ownBlock=some g∨g=W.heap.size+1) :
  Blk W' F.G 152 (sfC F vs vn vu)∧zin F (Ts++[U]) n nx us k M (.slice (some g) (Ts.length+1) cap) vn vu (W'.setCell ⟨F.G,10,none⟩ (.slice (some g) (Ts.length+1) cap)) ∧
  Kq (sfS F vs vn vu) W (W'.setCell ⟨F.G,10,none⟩ (.slice (some g) (Ts.length+1) cap)) (sfS F (.slice (some g) (Ts.length+1) cap) vn vu):=by
 have c:Frm (fun q=>vs.ownBlock=some q) W W':=fV hg;have d:=h.blk.frm c (fun e=>zK h.sets h.blk dM e rfl);have h1:W'.ownsRow F.w9.heap.size 222 12 (.slice (some g) (Ts.length+1) cap) (Ts++[U]).length (stC (Ts++[U])):=by rw [eK,eY,stC_snoc];exact zkf
 have h2:=zf h.next c (fun b hb e=>zas h.next h.sets dM hb e);have f:=zf h.uns c (fun b hb e=>zas h.uns h.sets dM hb e);have i:=h.map.frm c (fun e=>h.map.aj h.sets e);have h5:=h.bh c (fun q e=>.inr (h.sets.lt q e).1);have hs:=eB W' F.G 10 (.slice (some g) (Ts.length+1) cap);refine⟨d,⟨?_,by rw [← sfC_10 (vs:=vs)];exact d.ab 10 _,zf h1 hs (fun b hb e=>zK h1 d dM hb e),zf h2 hs (fun b hb e=>zK h2 d dM hb e),zf f hs (fun b hb e=>zK f d dM hb e),i.frm hs hF.ne⟩,⟨?_,fun q a=>?_⟩⟩
 ·exact yY12a2
 ·exact (c.mono (fun q _ e=>.inr (.inl e))).trans (hs.mono (fun q _ e=>.inl (by subst e;exact⟨hF.b0G,hF.Gw⟩)))
 ·rcases a with a|a|a|a
  ·exact .inl (.inl a)
  ·obtain rfl:=zfj a;rcases hat with e|e
   ·exact .inl (.inr (.inl e))
   ·exact .inr oM
  ·exact .inl (.inr (.inr (.inl a)))
  ·exact .inl (.inr (.inr (.inr a)))
theorem zin.pushN (h:zin F Ts n nx us k M vs vn vu W)(hF:ziH F) (zkf:W'.ownsRow F.w9.heap.size 166 6 (.slice (some g) (n+1) cap) (n+1) (nxC n nx++[.int .i64 (-1),.int .i64 (-1),.int .i64 (-1),.int .i64 (-1),.int .i64 (-1),.int .i64 (-1)]))(hg:W.grownBy W' vn.ownBlock)(hat:vn.ownBlock=some g∨g=W.heap.size+1) :
  Blk W' F.G 152 (sfC F vs vn vu)∧zin F Ts (n+1) (fun k l=>if k=n then -1 else nx k l) us k M vs (.slice (some g) (n+1) cap) vu (W'.setCell ⟨F.G,12,none⟩ (.slice (some g) (n+1) cap)) ∧
  Kq (sfS F vs vn vu) W (W'.setCell ⟨F.G,12,none⟩ (.slice (some g) (n+1) cap)) (sfS F vs (.slice (some g) (n+1) cap) vu):=by
 have c:Frm (fun q=>vn.ownBlock=some q) W W':=fV hg;have d:=h.blk.frm c (fun e=>zK h.next h.blk dM e rfl);have h2:W'.ownsRow F.w9.heap.size 166 6 (.slice (some g) (n+1) cap) (n+1) (nxC (n+1) (fun k l=>if k=n then -1 else nx k l)):=by rw [nxC_snoc];exact zkf
 have h1:=zf h.sets c (fun b hb e=>zas h.sets h.next dM hb e);have f:=zf h.uns c (fun b hb e=>zas h.uns h.next dM hb e);have i:=h.map.frm c (fun e=>h.map.aj h.next e);have h5:=h.bh c (fun q e=>.inr (h.next.lt q e).1);have hs:=eB W' F.G 12 (.slice (some g) (n+1) cap);refine⟨d,⟨?_,by rw [← sfC_12 (vn:=vn)];exact d.ab 12 _,zf h1 hs (fun b hb e=>zK h1 d dM hb e),zf h2 hs (fun b hb e=>zK h2 d dM hb e),zf f hs (fun b hb e=>zK f d dM hb e),i.frm hs hF.ne⟩,⟨?_,fun q a=>?_⟩⟩
 ·exact yY12a2
 ·exact (c.mono (fun q _ e=>.inr (.inr (.inl e)))).trans (hs.mono (fun q _ e=>.inl (by subst e;exact⟨hF.b0G,hF.Gw⟩)))
 ·rcases a with a|a|a|a
  ·exact .inl (.inl a)
  ·exact .inl (.inr (.inl a))
  ·obtain rfl:=zfj a;rcases hat with e|e
   ·exact .inl (.inr (.inr (.inl e)))
   ·exact .inr oM
  ·exact .inl (.inr (.inr (.inr a)))
theorem zin.pushU (h:zin F Ts n nx us k M vs vn vu W)(hF:ziH F) (zkf:W'.ownsRow F.w9.heap.size 4 1 (.slice (some g) (us.length+1) cap) (us.length+1) (zak us++[.bool x]))(hg:W.grownBy W' vu.ownBlock)(hat:vu.ownBlock=some g∨g=W.heap.size+1) :
  Blk W' F.G 152 (sfC F vs vn vu)∧zin F Ts n nx (us++[x]) k M vs vn (.slice (some g) (us.length+1) cap) (W'.setCell ⟨F.G,13,none⟩ (.slice (some g) (us.length+1) cap)) ∧
  Kq (sfS F vs vn vu) W (W'.setCell ⟨F.G,13,none⟩ (.slice (some g) (us.length+1) cap)) (sfS F vs vn (.slice (some g) (us.length+1) cap)):=by
 have c:Frm (fun q=>vu.ownBlock=some q) W W':=fV hg;have d:=h.blk.frm c (fun e=>zK h.uns h.blk dM e rfl);have f:W'.ownsRow F.w9.heap.size 4 1 (.slice (some g) (us.length+1) cap) (us++[x]).length (zak (us++[x])):=by
  rw [eK,eY,zak,fO];exact zkf
 have h1:=zf h.sets c (fun b hb e=>zas h.sets h.uns dM hb e);have h2:=zf h.next c (fun b hb e=>zas h.next h.uns dM hb e);have i:=h.map.frm c (fun e=>h.map.aj h.uns e);have h5:=h.bh c (fun q e=>.inr (h.uns.lt q e).1);have hs:=eB W' F.G 13 (.slice (some g) (us.length+1) cap);refine⟨d,⟨?_,by rw [← sfC_13 (vu:=vu)];exact d.ab 13 _,zf h1 hs (fun b hb e=>zK h1 d dM hb e),zf h2 hs (fun b hb e=>zK h2 d dM hb e),zf f hs (fun b hb e=>zK f d dM hb e),i.frm hs hF.ne⟩,⟨?_,fun q a=>?_⟩⟩
 ·exact yY12a2
 ·exact (c.mono (fun q _ e=>.inr (.inr (.inr e)))).trans (hs.mono (fun q _ e=>.inl (by subst e;exact⟨hF.b0G,hF.Gw⟩)))
 ·rcases a with a|a|a|a
  ·exact .inl (.inl a)
  ·exact .inl (.inr (.inl a))
  ·exact .inl (.inr (.inr (.inl a)))
  ·obtain rfl:=zfj a;rcases hat with e|e
   ·exact .inl (.inr (.inr (.inr e)))
   ·exact .inr oM
end
theorem zdt {b:Nat}   (h:w.ownsRow c e size v n xs)(hb:b<=c):w.ownsRow b e size v n xs:=by
 refine⟨h.1,?_⟩;rcases h.2 with h1|⟨g,a,d,i,f,r⟩
 ·exact .inl h1
 ·exact .inr ⟨g,a,d,i,eI hb f,r⟩
def RetTO (J:zbx) (o:Option (List ByteArray × List ByteArray)) (B:Nat) (S:Nat->Prop) (W:World) (e:Ending) (W':World):Prop:=
 ∃ S',Kp J B S W W' S'∧((o=none∧e=.returned (.tuple #[.agg #[(),()],.bool false])) ∨
  ∃ (rs cs:List ByteArray) (R C:Option Addr) (cr cc:Nat),o=some (rs,cs)∧e=.returned (.tuple #[.agg #[.slice R rs.length cr,.slice C cs.length cc],.bool true])∧zhb W' S' W.heap.size R rs.length cr C cs.length cc rs cs)
structure TabB (W:World) (S:Nat->Prop) (base g:Nat) (R:Option Addr) (cr:Nat) (C:Option Addr) (cc:Nat) (rs cs:List ByteArray):Prop where
 blk:Blk W g 90 #[.slice R rs.length cr,.slice C cs.length cc]
 tab:zhb W S base R rs.length cr C cs.length cc rs cs
 far:¬ S g
 dis:∀ q,(Value.slice R rs.length cr).ownBlock=some q->(Value.slice C cs.length cc).ownBlock≠some q
section
variable {J:zbx} {B b0 L base nr cr nc cc kn:Nat} {S S':Nat->Prop} {W W':World} {R C:Option Addr} {rows cols:List ByteArray} {f:ByteArray->Bool} {rc:Value}
theorem TabB.kp (h:TabB W S base g R cr C cc rs cs) (k:Kp J B S W W' S'):TabB W' S' base g R cr C cc rs cs:=⟨(k.blk h.blk h.far).1,h.tab.kp k,(k.blk h.blk h.far).2,h.dis⟩
theorem zfq {w1 W5:World} {b2 b5:Nat} {R6 C6:Option Addr} {cr6 cc6:Nat}(hS:Hid (∀ q,w1.heap.size<=q->¬ S q))(hlen:rows.length=nr∧cols.length=nc)(hb:Blk W5 g 90 #[(),()])
  (h2:W5.ownsRow b2 9 1 (.slice R6 nr cr6) nr (zM rows)) (h5:W5.ownsRow b5 9 1 (.slice C6 nc cc6) nc (zM cols)) (hdis:∀ q,(Value.slice R6 nr cr6).ownBlock=some q->(Value.slice C6 nc cc6).ownBlock≠some q) (hx:Ext w1 W5) (hg:w1.heap.size<=g) (hb2:w1.heap.size<=b2) (hb5:w1.heap.size<=b5) :
  Ext w1 ((W5.setCell g (.slice R6 nr cr6)).setCell ⟨g,1,none⟩ (.slice C6 nc cc6))∧TabB ((W5.setCell g (.slice R6 nr cr6)).setCell ⟨g,1,none⟩ (.slice C6 nc cc6)) S w1.heap.size g R6 cr6 C6 cc6 rows cols:=by
 obtain⟨rfl,rfl⟩:=hlen;have d:=(eB W5 g 0 (.slice R6 rows.length cr6)).trans (eB _ g 1 (.slice C6 cols.length cc6));have a:=zdt h2 hb2;have c:=zdt h5 hb5;refine⟨hx.frm d (fun q hq e=>by have f:q=g:=e;omega),⟨by simpa using (hb.ab 0 (.slice R6 rows.length cr6)).ab 1 (.slice C6 cols.length cc6),⟨⟨zf a d (fun b hb' e=>zK a hb dM hb' e),fun b hb'=>hS.out b (a.lt b hb').1⟩,⟨zf c d (fun b hb' e=>zK c hb dM hb' e),fun b hb'=>hS.out b (c.lt b hb').1⟩⟩,hS.out g hg,hdis⟩⟩
theorem zjc (l:List ByteArray) (x:ByteArray):zM (l++[x])=zM l++[.string x]:=by simp [zM]
theorem TabB.push {g8 cap8:Nat} {x:ByteArray} (h:TabB W S base g R cr C cc rs cs)(hfr:∀ q,W.heap.size<=q->¬ S q) (zkf:W'.ownsRow base 9 1 (.slice (some g8) (rs.length+1) cap8) (rs.length+1) (zM rs++[.string x]))
  (hg:W.grownBy W' (Value.slice R rs.length cr).ownBlock) (hat:(Value.slice R rs.length cr).ownBlock=some g8∨g8=W.heap.size+1) :
  Blk W' g 90 #[.slice R rs.length cr,.slice C cs.length cc]∧TabB (W'.setCell g (.slice (some g8) (rs.length+1) cap8)) S base g (some ⟨g8,0,none⟩) cap8 C cc (rs++[x]) cs:=by
 have f:Frm (fun q=>(Value.slice R rs.length cr).ownBlock=some q) W W':=fV hg;have a:=h.blk.frm f (fun e=>zK h.tab.r.own h.blk dM e rfl);have d:=zf h.tab.c.own f (fun b hb e=>h.dis b e hb);have hs:=eB W' g 0 (.slice (some g8) (rs.length+1) cap8);have i:(rs++[x]).length=rs.length+1:=sM;have j:¬ S g8:=by
  rcases hat with e|e
  ·exact h.tab.r.far g8 e
  ·exact hfr g8 oM
 refine⟨a,⟨by rw [i];simpa using a.ab 0 (.slice (some g8) (rs.length+1) cap8),⟨⟨?_,fun b hb=>by obtain rfl:=zfj hb;exact j⟩,⟨zf d hs (fun b hb e=>zK d a dM hb e),h.tab.c.far⟩⟩,h.far,fun q hq=>?_⟩⟩
 ·rw [i,zjc];exact zf zkf hs (fun b hb e=>zK zkf a dM hb e)
 ·obtain rfl:=zfj hq;rcases hat with e|e
  ·exact h.dis _ e
  ·intro hc;have:=(h.tab.c.own.lt _ hc).2;omega
theorem zfK {R1 C1:Option Addr} {cr1 cc1:Nat}  (hJ:zbx.Ok b0 J)(hk:Kp J B S W w5 S5)(hT:zhb w5 S5 base R1 rs.length cr1 C1 cs.length cc1 rs cs)(hb:Blk w5 Z 90 #[u0,u1])(hZ:¬ S5 Z)(hWZ:W.heap.size<=Z)(hbZ:b0<=Z)(hWb:W.heap.size<=base) :
  Blk ((w5.setCell Z (.slice R1 rs.length cr1)).setCell ⟨Z,1,none⟩ (.slice C1 cs.length cc1)) Z 90 #[.slice R1 rs.length cr1,.slice C1 cs.length cc1] ∧
  Kp J B S W ((w5.setCell Z (.slice R1 rs.length cr1)).setCell ⟨Z,1,none⟩ (.slice C1 cs.length cc1)) S5∧zhb ((w5.setCell Z (.slice R1 rs.length cr1)).setCell ⟨Z,1,none⟩ (.slice C1 cs.length cc1)) S5 W.heap.size R1 rs.length cr1 C1 cs.length cc1 rs cs:=by
 have a:=(eB w5 Z 0 (.slice R1 rs.length cr1)).trans (eB _ Z 1 (.slice C1 cs.length cc1));refine⟨by simpa using (hb.ab 0 (.slice R1 rs.length cr1)).ab 1 (.slice C1 cs.length cc1),hk.own hJ a (fun q _ e=>by have d:q=Z:=e;rw [d];exact⟨hWZ,hbZ,hZ⟩),
  ⟨⟨zdt (zf hT.r.own a (fun b hb' e=>zK hT.r.own hb dM hb' e)) hWb,hT.r.far⟩,⟨zdt (zf hT.c.own a (fun b hb' e=>zK hT.c.own hb dM hb' e)) hWb,hT.c.far⟩⟩⟩
theorem yY12a1 {P:Prop}(h:P:=by
 refine hK.out _ _ hxw5 ?_;refine pT ?_;refine uQ ?_;have c7:=hb7.cell;have f7:=hb7.frozen;refine zb fun K hK=>?_;go_simp;refine hK.out _ _ ?_;refine pT ?_;refine zg ?_;have zki:=zfq (S:=S) hwS1 hlr.out hb7 ho2 ho5 hdis hxw5 hg7 oM oM;go_wp2_with fail
 go_meet;exact⟨g7,R6,C6,cr6,cc6,rfl,hg7,zki.1,zki.2⟩
 ):P:=h
theorem zfU (hO:zfE b0 L f J kn rc)(hj:J B W S)(hB:B+21840<10000000)(hT:zhb W S base R nr cr C nc cc rows cols)(hI:zbX L f rows cols)(hb0:b0<=W.heap.size)(hL:L<64) :
  Calls Tryz.prog 123 #[orcV L kn rc,.agg #[.slice R nr cr,.slice C nc cc]] W (RetTO J ((zX L f cols (12 - rows.length) rows).map fun r=>(r,cols)) (B+21840) S W):=by
 have H:=za hO;have HI:=za hI;have hlr:=za hT.lens;have Y:=za hI.r12;have an:=za hI.c20;have Q:Ext W (((W.alloc (.cells #[(L:Int),.func (.func kn) #[rc] #[]] 83)).alloc (.cells #[.slice R nr cr,.slice C nc cc] 90)).alloc (.cells #[(),()] 90)):=(((dE _).alloc _).alloc _).alloc _;obtain⟨b2,b3,b4⟩:=zU (dE (((W.alloc (.cells #[(L:Int),.func (.func kn) #[rc] #[]] 83)).alloc (.cells #[.slice R nr cr,.slice C nc cc] 90)).alloc (.cells #[(),()] 90)));have aa:=za (fun (q:Nat) (hq:W.heap.size<=q)=>zbx.fresh hO.ok hj hq);have ab:=hO.ok.keep hj Q (fun _ _ h=>h.elim);have M:=za (hT.ext Q);have au:W.heap.size<(((W.alloc (.cells #[(L:Int),.func (.func kn) #[rc] #[]] 83)).alloc (.cells #[.slice R nr cr,.slice C nc cc] 90)).alloc (.cells #[(),()] 90)).heap.size∧W.heap.size+1+1<(((W.alloc (.cells #[(L:Int),.func (.func kn) #[rc] #[]] 83)).alloc (.cells #[.slice R nr cr,.slice C nc cc] 90)).alloc (.cells #[(),()] 90)).heap.size:=by simp;omega
 clear hO hI hT
 go_enter Tryz.func123,Tryz.ntmps123
 go_upto_region 1 with fail
 generalize ((W.alloc _).alloc _).alloc _=w1 at *;have hwS1:=za (fun (q:Nat) (hq:w1.heap.size<=q)=>zbx.fresh H.out.ok ab hq)
 go_cut [6] (fun v6 wx=>∃ (g:Nat) (R6 C6:Option Addr) (cr6 cc6:Nat),v6=.pointer (some g)∧w1.heap.size<=g∧Ext w1 wx∧TabB wx S w1.heap.size g R6 cr6 C6 cc6 rows cols)
 case first =>
  have CT:∀ X,Ext w1 X->∀ q,X.cell? ⟨W.heap.size+1,q,none⟩=#[Value.slice R nr cr,.slice C nc cc][q]?:=fun X hX=>(b3.ext hX).cell;have aI:=dE w1;have aZ:nr<=12:=by have:=hlr.out.1;have:=Y.out;omega
  have aY:nc<=20:=by have:=hlr.out.2;have:=an.out;omega
  refine uR (fun X=>Ext w1 X) [5,8] (zw.app [0,1,3,4] (zw.two 2 (zw.two 5 (zw.of [6,7,8]) 7 (zw.of [5,6,8])) 7 (zw.of [2,5,6,8]))) ?_;refine uQ ?_;have z:=aI.drew;generalize w1.drew=wd at *;refine zm (fun K hK=>?_) (fun K hK=>?_)
  ·go_simp;refine (zby (eW (zh M.out.r.own z)) oM).mono ?_;rintro e w2 ⟨v2,rfl,ho2,T⟩;have k:=z.trans T;obtain⟨R6,cr6,rfl⟩:=zi ho2;have au:=z.size;refine hK.out _ _ k ?_;refine pT ?_;refine uQ ?_;refine zm (fun K hK=>?_) (fun K hK=>?_)
   ·go_simp;refine (zby (eW (zh M.out.c.own k)) oM).mono ?_;rintro e E ⟨v5,rfl,ho5,p⟩;have hxw5:=k.trans p;obtain⟨C6,cc6,rfl⟩:=zi ho5;have av:=k.size;have hdis:∀ q,(Value.slice R6 nr cr6).ownBlock=some q->(Value.slice C6 nc cc6).ownBlock≠some q:=fun q h1 h2=>by have:=(ho2.lt q h1).2;have:=(ho5.lt q h2).1;omega
    replace ho2:=zh ho2 p;refine hK.out _ _ hxw5 ?_;refine pT ?_;refine uQ ?_;refine ze fun K hK=>?_;go_simp;have hb7:=eX E 90 #[(),()];have D:Ext E (E.alloc (.cells #[(),()] 90)):=(dE _).alloc _;have b:=hxw5.trans D;have hg7:=hxw5.size;replace ho2:=zh ho2 D;replace ho5:=zh ho5 D;refine hK.out _ _ b ?_;obtain⟨g7,u⟩:∃ g,Hid (g=E.heap.size):=⟨_,za rfl⟩;rw [← u.out] at hb7 hg7 ⊢;generalize E.alloc _=w7 at *;refine pT ?_;refine uQ ?_;have c7:=hb7.cell;have f7:=hb7.frozen;refine zb fun K hK=>?_;go_simp;refine hK.out _ _ ?_;refine pT ?_;refine zg ?_;have zki:=zfq (S:=S) hwS1 hlr.out hb7 ho2 ho5 hdis b hg7 oM oM;go_wp2_with fail
    go_meet;exact⟨g7,R6,C6,cr6,cc6,rfl,hg7,zki.1,zki.2⟩
   ·go_simp;have hb7:=eX w2 90 #[(),()];have D:Ext w2 (w2.alloc (.cells #[(),()] 90)):=(dE _).alloc _;have b:=k.trans D;have hg7:=k.size;replace ho2:=zh ho2 D;refine hK.out _ _ b ?_;obtain⟨g7,u⟩:∃ g,Hid (g=w2.heap.size):=⟨_,za rfl⟩;rw [← u.out] at hb7 hg7 ⊢;generalize w2.alloc _=w7 at *;refine pT ?_;refine uQ ?_;refine ze fun K hK=>?_;go_simp;refine (zby (eW (zh M.out.c.own b)) oM).mono ?_;rintro e E ⟨v5,rfl,ho5,p⟩;have hxw5:=b.trans p;obtain⟨C6,cc6,rfl⟩:=zi ho5;have av:=b.size;have hdis:∀ q,(Value.slice R6 nr cr6).ownBlock=some q->(Value.slice C6 nc cc6).ownBlock≠some q:=fun q h1 h2=>by have:=(ho2.lt q h1).2;have:=(ho5.lt q h2).1;omega
    replace ho2:=zh ho2 p;replace hb7:=hb7.ext p;exact yY12a1
  ·go_simp;have hb7:=eX wd 90 #[(),()];have D:Ext wd (wd.alloc (.cells #[(),()] 90)):=(dE _).alloc _;have b:=z.trans D;have hg7:=z.size;refine hK.out _ _ b ?_;obtain⟨g7,u⟩:∃ g,Hid (g=wd.heap.size):=⟨_,za rfl⟩;rw [← u.out] at hb7 hg7 ⊢;generalize wd.alloc _=w7 at *;refine pT ?_;refine uQ ?_;refine ze fun K hK=>?_;go_simp;refine (zby (eW (zh M.out.r.own b)) oM).mono ?_;rintro e w2 ⟨v2,rfl,ho2,T⟩;have k:=b.trans T;obtain⟨R6,cr6,rfl⟩:=zi ho2;have au:=b.size;replace hb7:=hb7.ext T;refine hK.out _ _ k ?_;refine pT ?_;refine uQ ?_;refine ze fun K hK=>?_;go_simp;refine (zby (eW (zh M.out.c.own k)) oM).mono ?_;rintro e E ⟨v5,rfl,ho5,p⟩;have hxw5:=k.trans p;obtain⟨C6,cc6,rfl⟩:=zi ho5;have av:=k.size;have hdis:∀ q,(Value.slice R6 nr cr6).ownBlock=some q->(Value.slice C6 nc cc6).ownBlock≠some q:=fun q h1 h2=>by have:=(ho2.lt q h1).2;have:=(ho5.lt q h2).1;omega
   replace hb7:=hb7.ext p;replace ho2:=zh ho2 p;exact yY12a1
 case rest =>
  obtain⟨g,R6,C6,cr6,cc6,rfl,aE,ax,s⟩:=hcut;have ap:=za ((Kp.refl ab).ext H.out.ok ax);have B2:=za b2;have B4:=za b4;obtain⟨tg,ae⟩:∃ tg,Hid (zX L f cols (12 - rows.length) rows=tg):=⟨_,za rfl⟩;have U:=za s;have am:=za (show zbX L f rows cols∧zX L f cols (12 - rows.length) rows=tg∧rows.length<=12 from ⟨HI.out,ae.out,Y.out⟩);have V:=za (ap.out.more H.out.ok (show B<=B+1680*rows.length by omega));clear b2 b3 b4 ax s ab ap;have aR:=za hlr.out.2;go_wp2_with fail
  go_loopw [7,8] (fun _ _ wr=>∃ (l:List ByteArray) (S1:Nat->Prop) (R1 C1:Option Addr) (G F:Nat),Hid (Kp J (B+1680*l.length) S w1 wr S1)∧Hid (TabB wr S1 w1.heap.size g R1 G C1 F l cols)∧Hid (zbX L f l cols∧zX L f cols (12 - l.length) l=tg∧l.length<=12)) (fun _ _ wr=>12 - lenAt0 wr g)
  case atStart=>exact⟨rows,S,R6,C6,cr6,cc6,V,U,am⟩
  case round =>
   clear V U am;obtain⟨l,S1,R1,C1,G,F,y,s,hI⟩:=hrel;have aH:=hI.out.2.2;have t:=za (or_firstOpen H.out y.out.j oM s.out.tab hI.out.1 (oH y.out.size) hL);have k2:=(y.out.blk B2.out (aa.out _ (dI _))).1.cell;have k6:=s.out.blk.cell;have aG:=za (zeV s.out.blk);cases hop:zaJ L f l cols with
   |none =>
    have az:=za hop;have O:=za (show tg=some l by rw [← hI.out.2.1,zcl _ hop]);rw [hop] at t;clear hop;go_upto_region 3 with (go_at_call 209;refine t.out.mono ?_;rintro e E ⟨S5,rfl,m⟩)
    have a:=za (s.out.kp m);have o:=za (((y.out.trans m).more H.out.ok (show B+1680*l.length+1680<=B+21840 by omega)).back Q);have d:=(y.out.trans m).blk B4.out (aa.out _ oM);have k6:=a.out.blk.cell;have k4:=d.1.cell;have f4:=d.1.frozen;clear k2 t m;go_wp2_with fail
    have zki:=zfK H.out.ok o.out a.out.tab d.1 d.2 oM oM oM;have cf:=zki.1.cell;have Hfin:=za zki.2;clear zki k6 k4 f4 d a o;generalize (E.setCell ⟨W.heap.size+1+1,0,none⟩ (.slice R1 l.length G)).setCell ⟨W.heap.size+1+1,1,none⟩ (.slice C1 cols.length F)=w9 at *;exact bodyPost_ret (v:=.tuple #[.agg #[.slice R1 l.length G,.slice C1 cols.length F],.bool true]) (by simp [results,Tryz.results123,go_sem,cf]) rfl ⟨S5,Hfin.out.1,.inr ⟨l,cols,R1,C1,G,F,by rw [ae.out,O.out];rfl,rfl,Hfin.out.2⟩⟩
   |some x =>
    have az:=za hop
    by_cases hfull:l.length=12
    ·have O:=za (show tg=none by rw [← hI.out.2.1,hfull];exact zeb hop);have aD:((l.length:Int)==12)=true:=by rw [hfull];rfl
     rw [hop] at t;clear hop hfull;go_upto_region 3 with (go_at_call 209;refine t.out.mono ?_;rintro e E ⟨S5,rfl,m⟩)
     have a:=za (s.out.kp m);have o:=za (((y.out.trans m).more H.out.ok (show B+1680*l.length+1680<=B+21840 by omega)).back Q);have d:=(y.out.trans m).blk B4.out (aa.out _ oM);have k6:=a.out.blk.cell;have k4:=d.1.cell;have f4:=d.1.frozen;clear k2 t m;go_wp2_with fail
     have hf:=(eB E (W.heap.size+1+1) 0 (.slice none 0 0)).trans (eB _ (W.heap.size+1+1) 1 (.slice none 0 0));have aF:=za (o.out.own H.out.ok hf (fun q _ e=>by have e':q=W.heap.size+1+1:=e;rw [e'];exact⟨oM,oM,d.2⟩));have cf:∀ i,((E.setCell ⟨W.heap.size+1+1,0,none⟩ ()).setCell ⟨W.heap.size+1+1,1,none⟩ ()).cell? ⟨W.heap.size+1+1,i,none⟩=#[Value.slice none 0 0,.slice none 0 0][i]?:=fun i=>by
      have:=((d.1.ab 0 (.slice none 0 0)).ab 1 (.slice none 0 0)).cell i;simpa using this
     clear k6 k4 f4 d a o hf;generalize (E.setCell ⟨W.heap.size+1+1,0,none⟩ ()).setCell ⟨W.heap.size+1+1,1,none⟩ ()=w9 at *;exact bodyPost_ret (v:=.tuple #[.agg #[(),()],.bool false]) (by simp [results,Tryz.results123,go_sem,cf]) rfl ⟨S5,aF.out,.inl ⟨by rw [ae.out,O.out];rfl,rfl⟩⟩
    ·have ad:l.length<12:=oM;have aD:((l.length:Int)==12)=false:=by simp;omega
     have O:=za (show zbX L f (l++[x]) cols∧zX L f cols (12 - (l++[x]).length) (l++[x])=tg∧(l++[x]).length<=12 from
      ⟨hI.out.1.grow ad hop,by rw [← hI.out.2.1,eK,eY,show 12 - l.length=(12 - (l.length+1))+1 by omega,zcZ _ hop],by simp;omega⟩)
     rw [hop] at t;clear hop hfull;go_upto_region 3 with (go_at_call 209;refine t.out.mono ?_;rintro e E ⟨S5,rfl,m⟩)
     have a:=s.out.kp m;have o:=za (y.out.trans m);have ao:=za (fun (q:Nat) (hq:E.heap.size<=q)=>zbx.fresh H.out.ok m.j hq);have k6:=a.blk.cell;have aw:=o.out.size;clear k2 t m;go_wp2_with (at_builtin;refine zW w1 E rfl _ _ _ rfl 9 _ 1 16 Tryz.underlying88 zt rfl dM (.slice R1 l.length G) l.length (zM l) _ _ rfl rfl aw a.tab.r.own rfl (by simp [Value.oneCell']) lM oM ?_;intro g8 cap8 w8 hown8 hg8 hat8 hlt8;obtain⟨Z,I⟩:=a.push (x:=x) ao.out hown8 hg8 hat8;have k8:=Z.cell;have f8:=Z.frozen)
     have aq:=za (((o.out.grown H.out.ok hg8 (fun q hq=>⟨(a.tab.r.own.lt q hq).1,by have:=(a.tab.r.own.lt q hq).1;omega,a.tab.r.far q hq⟩)).cell H.out.ok aE oM a.far 0 (.slice (some g8) (l.length+1) cap8)));have ak:=za I;have ar:=za (zeV (n:=l.length+1) (R:=some ⟨g8,0,none⟩) (c:=cap8) (by have:=I.blk;rwa [eK,eY] at this));clear hown8 hg8 hat8 Z I k8 f8 k6 a;go_roundw
     case rel=>exact⟨l++[x],S5,some ⟨g8,0,none⟩,C1,cap8,F,za (by have:=aq.out;rwa [show B+1680*l.length+1680=B+1680*(l++[x]).length by rw [eK,eY];omega] at this),ak,O⟩
     case measure =>
      rw [aG.out,ar.out];omega
end
section
variable {J:zbx} {B b0 L base nr cr nc cc kn:Nat} {S S':Nat->Prop} {W W':World} {R C:Option Addr} {rows cols:List ByteArray} {f:ByteArray->Bool} {rc:Value}
theorem zhR (hO:zfE b0 L f J kn rc)(hj:J B W S)(hB:B+21840<10000000)(hb0:b0<=W.heap.size)(hL:L<64) :
  Calls Tryz.prog 50 #[orcV L kn rc] W (RetTO J ((zX L f [⟨#[]⟩] 11 [⟨#[]⟩]).map fun r=>(r,[⟨#[]⟩])) (B+21840) S W):=by
 have p:=za hO;obtain⟨w1,U0⟩:∃ x,Hid ((W.alloc (.cells #[(L:Int),.func (.func kn) #[rc] #[]] 83)).alloc (.cells #[(),()] 90)=x):=⟨_,za rfl⟩;have l:Ext W w1:=(((dE _).alloc _).alloc _).trans (Ext.eq_ U0.out);obtain⟨b1,b2⟩:=zJ (Ext.eq_ U0.out);have I:=za (fun (q:Nat) (hq:W.heap.size<=q)=>zbx.fresh hO.ok hj hq);have s:=hO.ok.keep hj l (fun _ _ h=>h.elim);have am:W.heap.size+1<w1.heap.size:=by rw [← U0.out];simp
 clear hO
 go_enter Tryz.func50,Tryz.ntmps50
 go_upto_region 1 with fail
 rw [U0.out] at *;have k1:=b1.cell;have y:=za (fun (q:Nat) (hq:w1.heap.size<=q)=>zbx.fresh p.out.ok s hq);have oa:=World.ownsRow_lit (base:=w1.heap.size) (e:=9) (size:=1) w1 #[.string ⟨#[]⟩] 1 (dI _) dM rfl;have m:Ext w1 (w1.alloc (.cells #[.string ⟨#[]⟩] 9)):=(dE _).alloc _;have Q:=World.ownsRow_lit (base:=w1.heap.size) (e:=9) (size:=1) (w1.alloc (.cells #[.string ⟨#[]⟩] 9)) #[.string ⟨#[]⟩] 1 m.size dM rfl;have n:Ext (w1.alloc (.cells #[.string ⟨#[]⟩] 9)) ((w1.alloc (.cells #[.string ⟨#[]⟩] 9)).alloc (.cells #[.string ⟨#[]⟩] 9)):=(dE _).alloc _;have o:=zh oa n;have j:zhb ((w1.alloc (.cells #[.string ⟨#[]⟩] 9)).alloc (.cells #[.string ⟨#[]⟩] 9)) S w1.heap.size (some ⟨w1.heap.size,0,none⟩) 1 1 (some ⟨(w1.alloc (.cells #[.string ⟨#[]⟩] 9)).heap.size,0,none⟩) 1 1 [⟨#[]⟩] [⟨#[]⟩]:=
  ⟨⟨o,fun b hb=>y.out b (o.lt b hb).1⟩,⟨Q,fun b hb=>y.out b (Q.lt b hb).1⟩⟩
 have c:=m.trans n;have t:=p.out.ok.keep s c (fun _ _ h=>h.elim);have u:(w1.alloc (.cells #[.string ⟨#[]⟩] 9)).heap.size=w1.heap.size+1:=sM;rw [u] at j;have M:=za (zfU p.out t hB j (zbX.first L f) (oH c.size) hL)
 have Y:=l.size;have Z:=c.size;clear oa Q o j t u m n;have D:=za ((b2.ext c));go_upto_region 99 with fail
 refine M.out.mono ?_;rintro e z ⟨V,g,k⟩;have a:=g.blk D.out (I.out _ oM);have d:=za (g.back (l.trans c));have k5:=a.1.cell;have X:=a.1.frozen;rcases k with ⟨hn,rfl⟩|⟨T,H,R,C,G,E,ho,rfl,hT⟩
 ·have Hn:=za hn;clear hn g k1;go_wp2_with fail
  have hf:=(eB z (W.heap.size+1) 0 (.slice none 0 0)).trans (eB _ (W.heap.size+1) 1 (.slice none 0 0));have O:=za (d.out.own p.out.ok hf (fun q _ e=>by have e':q=W.heap.size+1:=e;rw [e'];exact⟨oM,oM,a.2⟩));have F:∀ i,((z.setCell ⟨W.heap.size+1,0,none⟩ ()).setCell ⟨W.heap.size+1,1,none⟩ ()).cell? ⟨W.heap.size+1,i,none⟩=#[Value.slice none 0 0,.slice none 0 0][i]?:=fun i=>by
   have:=((a.1.ab 0 (.slice none 0 0)).ab 1 (.slice none 0 0)).cell i;simpa using this
  clear k5 X a d hf;generalize (z.setCell ⟨W.heap.size+1,0,none⟩ ()).setCell ⟨W.heap.size+1,1,none⟩ ()=w9 at *;exact bodyPost_ret (v:=.tuple #[.agg #[(),()],.bool false]) (by simp [results,Tryz.results50,go_sem,F]) rfl ⟨V,O.out,.inl ⟨Hn.out,rfl⟩⟩
 ·have Ho:=za ho;have U:=za hT;clear ho hT g k1;go_wp2_with fail
  have zki:=zfK p.out.ok d.out U.out a.1 a.2 oM oM oM;have F:=zki.1.cell;have Hfin:=za zki.2;clear zki k5 X a U d;generalize (z.setCell ⟨W.heap.size+1,0,none⟩ (.slice R T.length G)).setCell ⟨W.heap.size+1,1,none⟩ (.slice C H.length E)=w9 at *;exact bodyPost_ret (v:=.tuple #[.agg #[.slice R T.length G,.slice C H.length E],.bool true]) (by simp [results,Tryz.results50,go_sem,F]) rfl ⟨V,Hfin.out.1,.inr ⟨T,H,R,C,G,E,Ho.out,rfl,Hfin.out.2⟩⟩
end
theorem zC.snoc2 {N:Nat}  {ls:List (List Int)}  (h:zC w base rows ls)(hlow:∀ (i:Nat) (r:Value) (b:Nat),rows[i]?=some r->r.ownBlock=some b->b<N)(hN:base<=N)(hrow:w.ownsRow N 3 1 row l.length (ints l)) :
  zC w base (rows++[row]) (ls++[l]):=by
 have c:=h.1;refine⟨by simp [c],fun i r m hr hm=>?_,fun i j ri rj b hri hrj hij hbi=>?_⟩
 ·rcases Nat.lt_trichotomy i rows.length with a|a|a
  ·rw [eH a] at hr;rw [eH oM] at hm;exact h.2.1 i r m hr hm
  ·rw [eN oM,a,Nat.sub_self] at hr;rw [eN oM,a,c,Nat.sub_self] at hm;simp at hr hm;subst hr;subst hm;exact zq hrow hN
  ·rw [eR (by simp;omega)] at hr;cases hr
 ·have d:∀ b,row.ownBlock=some b->N<=b:=fun b hb=>(hrow.lt b hb).1;have a:i<=rows.length:=by have:=(List.getElem?_eq_some_iff.1 hri).1;simp at this;omega
  have hj:j<=rows.length:=by have:=(List.getElem?_eq_some_iff.1 hrj).1;simp at this;omega
  rcases fC a with a|a<;>rcases fC hj with hj|hj
  ·rw [eH a] at hri;rw [eH hj] at hrj;exact h.2.2 i j ri rj b hri hrj hij hbi
  ·rw [eH a] at hri;subst hj;simp at hrj;subst hrj;intro hc;have h1:=hlow i ri b hri hbi;have h2:=d b hc;omega
  ·rw [eH hj] at hrj;subst a;simp at hri;subst hri;intro hc;have h1:=hlow j rj b hrj hc;have h2:=d b hbi;omega
  ·omega
def ziq (R M:Nat) (sh:Aut->Prop) (w:World) (e:Ending) (w':World):Prop:=
 ∃ (a:Aut) (A:Option Addr) (n c:Nat) (A':Option Addr) (n' c':Nat),e=.returned (.agg #[a.al,.slice A n c,.slice A' n' c'])∧zN w' w.heap.size A n c A' n' c' a∧Hid (sh a)∧Rd w' R M∧Dr R w w'
structure zbW (w0 W:World) (R G M:Nat) (al:Int) (v:Value) (rows:List Value) (ls:List (List Int)) (vA:Value) (acc:List Bool):Prop where
 blk:Blk W G 27 #[al,v,vA]
 nx:W.ownsRow w0.heap.size 110 1 v ls.length rows
 rows:zC W w0.heap.size rows ls
 acc:W.ownsRow w0.heap.size 4 1 vA acc.length (zak acc)
 rd:Rd W R M
 dr:Dr R w0 W
 hR:R<w0.heap.size
 hG:w0.heap.size<=G
section
variable {w0 W W':World} {R G M N:Nat} {al:Int} {v vA:Value} {rows:List Value} {ls:List (List Int)} {acc:List Bool}
theorem zbW.drawn (h:zbW w0 W R G M al v rows ls vA acc)(hd:Dr R W W')(hr:Rd W' R N):zbW w0 W' R G N al v rows ls vA acc:=
 ⟨h.blk.dr hd (by have:=h.hR;have:=h.hG;omega),zaF h.nx hd (fun b h1 e=>oH h.hR),h.rows.keep hd (fun b h1 e=>oH h.hR),zaF h.acc hd (fun b h1 e=>oH h.hR),hr,h.dr.trans hd,h.hR,h.hG⟩
theorem zbW.ext (h:zbW w0 W R G M al v rows ls vA acc)(hx:Ext W W'):zbW w0 W' R G M al v rows ls vA acc:=h.drawn (Ext.dr hx) (h.rd.ext hx)
theorem zbW.more (h:zbW w0 W R G M al v rows ls vA acc)(hM:M<=N):zbW w0 W R G N al v rows ls vA acc:={ h with rd:=h.rd.more hM }
theorem zbW.low (h:zbW w0 W R G M al v rows ls vA acc):∀ (i:Nat) (r:Value) (b:Nat),rows[i]?=some r->r.ownBlock=some b->b<W.heap.size:=fun i r b hr hb=>by
 obtain⟨l,_,ho⟩:=h.rows.row hr
 exact (ho.lt b hb).2
theorem zbW.grown (h:zbW w0 W R G M al v rows ls vA acc)    (ho:W.ownsRow w0.heap.size e size v0 k xs)(hg:W.grownBy W' v0.ownBlock):Dr R w0 W'∧Rd W' R M:=by
 have a:=h.hR;refine⟨h.dr.grown hg (fun k hk=>(ho.lt k hk).1),h.rd.frm (fV hg) (fun k hk hS=>by have:=(ho.lt k hS).1;omega)⟩
theorem zbW.bf (h:zbW w0 W R G M al v rows ls vA acc)(hlow:∀ (i:Nat) (r:Value) (b:Nat),rows[i]?=some r->r.ownBlock=some b->b<K)(hK:w0.heap.size<=K)(hrow:W.ownsRow K 3 1 row l.length (ints l))
  (zkf:W'.ownsRow w0.heap.size 110 1 (.slice (some g) (ls.length+1) cap) (ls.length+1) (rows++[row]))
  (hg:W.grownBy W' v.ownBlock) (hat:v.ownBlock=some g∨g=W.heap.size+1) :
  Hid (W'.cell? ⟨G,1,none⟩=some v)∧W'.frozen? ⟨G,1,none⟩=false∧zbW w0 (W'.setCell ⟨G,1,none⟩ (.slice (some g) (ls.length+1) cap)) R G M al (.slice (some g) (ls.length+1) cap) (rows++[row]) (ls++[l]) vA acc:=by
 have o:=h.hR;have d:=h.hG;have c:Blk W' G 27 #[.int .i64 al,v,vA]:=(hg.block G h.blk.lt (fun e=>zr h.nx h.blk dM e.symm rfl)).trans h.blk;have u:g≠G:=by
  rcases hat with h1|h1
  ·exact zr h.nx h.blk dM h1
  ·have:=h.blk.lt;omega
 have f:Frm (fun k=>v.ownBlock=some k) W W':=fV hg;obtain⟨q,t⟩:=h.grown h.nx hg;have j:=h.rows.snoc2 hlow hK hrow;have m:zC W' w0.heap.size (rows++[row]) (ls++[l]):=j.frm f (fun i r b hr hb hS=>by
  obtain⟨x,_,s⟩:=j.row hr;exact zas s h.nx dM hb hS)
 have n:W'.ownsRow w0.heap.size 4 1 vA acc.length (zak acc):=zf h.acc f (fun b hb hS=>zas h.acc h.nx dM hb hS);have a:=eB W' G 1 (.slice (some g) (ls.length+1) cap);refine⟨c.cell 1,c.frozen 1,⟨by simpa using c.ab 1 _,?_,?_,?_,t.frm a (fun k hk e=>oM),q.ag (p:=⟨G,1,none⟩) d _,o,d⟩⟩
 ·rw [eK,eY];exact zf zkf a (fun b hv hS=>by
   have:g=b:=by simpa [Value.ownBlock] using hv
   omega)
 ·refine m.frm a (fun i r b hr hb hS=>?_);obtain⟨x,_,s⟩:=m.row hr;exact zr s c dM hb hS
 ·exact zf n a (fun b hb hS=>zr n c dM hb hS)
theorem zbW.ar (h:zbW w0 W R G M al v rows ls vA acc)
  (zkf:W'.ownsRow w0.heap.size 4 1 (.slice (some g) (acc.length+1) cap) (acc.length+1) (zak acc++[.bool x]))
  (hg:W.grownBy W' vA.ownBlock) (hat:vA.ownBlock=some g∨g=W.heap.size+1) :
  Hid (W'.cell? ⟨G,2,none⟩=some vA)∧W'.frozen? ⟨G,2,none⟩=false∧zbW w0 (W'.setCell ⟨G,2,none⟩ (.slice (some g) (acc.length+1) cap)) R G M al v rows ls (.slice (some g) (acc.length+1) cap) (acc++[x]):=by
 have l:=h.hR;have d:=h.hG;have c:Blk W' G 27 #[.int .i64 al,v,vA]:=(hg.block G h.blk.lt (fun e=>zr h.acc h.blk dM e.symm rfl)).trans h.blk;have q:g≠G:=by
  rcases hat with h1|h1
  ·exact zr h.acc h.blk dM h1
  ·have:=h.blk.lt;omega
 have f:Frm (fun k=>vA.ownBlock=some k) W W':=fV hg;obtain⟨m,o⟩:=h.grown h.acc hg;have hn:W'.ownsRow w0.heap.size 110 1 v ls.length rows:=zf h.nx f (fun b hb hS=>zas h.nx h.acc dM hb hS);have j:zC W' w0.heap.size rows ls:=h.rows.frm f (fun i r b hr hb hS=>by
  obtain⟨s,_,n⟩:=h.rows.row hr;exact zas n h.acc dM hb hS)
 have a:=eB W' G 2 (.slice (some g) (acc.length+1) cap);refine⟨c.cell 2,c.frozen 2,⟨by simpa using c.ab 2 _,zf hn a (fun b hb hS=>zr hn c dM hb hS),j.frm a (fun i r b hr hb hS=>?_),?_,o.frm a (fun k hk e=>oM),m.ag (p:=⟨G,2,none⟩) d _,l,d⟩⟩
 ·obtain⟨s,_,n⟩:=j.row hr;exact zr n c dM hb hS
 ·rw [eK,eY,show zak (acc++[x])=zak acc++[.bool x] by simp [zak]];exact zf zkf a (fun b hv hS=>by
   have:g=b:=by simpa [Value.ownBlock] using hv
   omega)
theorem zbW.side (h:zbW w0 W R G M al v rows ls vA acc)(hlow:∀ (i:Nat) (r:Value) (b:Nat),rows[i]?=some r->r.ownBlock=some b->b<K)(hK:w0.heap.size<=K)(ho:W.ownsRow K 3 1 v0 k xs)(hg:W.grownBy W' v0.ownBlock):zbW w0 W' R G M al v rows ls vA acc:=by
 have d:=zq ho hK;obtain⟨c,f⟩:=h.grown d hg;have a:Frm (fun k=>v0.ownBlock=some k) W W':=fV hg;exact⟨h.blk.frm a (fun e=>zr ho h.blk dM e rfl),zf h.nx a (fun b hb hS=>zas ho h.nx dM hS hb),h.rows.frm a (fun i r b hr hb hS=>by have:=hlow i r b hr hb;have:=(ho.lt b hS).1;omega),
  zf h.acc a (fun b hb hS=>zas ho h.acc dM hS hb),f,c,h.hR,h.hG⟩
theorem zbW.fin {cs:Array Value} {t:TypeId} {sh:Aut->Prop}(h:zbW w0 W R G M al (.slice A n c) rows ls (.slice A' n' c') acc)(hx:Ext w w0) (bz:Blk w0 Z t cs)(hc:cs.size=3)(hRw:R<w.heap.size)(hZ:w.heap.size<=Z)(hZ':Z<w0.heap.size)(hM:M<=N)(hsh:sh ⟨al,ls,acc⟩) :
  Hid (ziq R N sh w (.returned (.agg #[al,.slice A n c,.slice A' n' c'])) (((W.setCell Z al).setCell ⟨Z,1,none⟩ (.slice A n c)).setCell ⟨Z,2,none⟩ (.slice A' n' c'))) ∧
  Blk (((W.setCell Z al).setCell ⟨Z,1,none⟩ (.slice A n c)).setCell ⟨Z,2,none⟩ (.slice A' n' c')) Z t #[.int .i64 al,.slice A n c,.slice A' n' c']:=by
 have g:=bz.dr h.dr oM;have d:=zZ W Z (.int .i64 al) (.slice A n c) (.slice A' n' c');have hn:n=ls.length:=by
  rcases h.nx.2 with ⟨h1,h2⟩|⟨_,_,_,h1,_⟩
  ·simp at h1;omega
  ·simp at h1;exact h1.2.1
 have a:n'=acc.length:=by
  rcases h.acc.2 with ⟨h1,h2⟩|⟨_,_,_,h1,_⟩
  ·simp at h1;omega
  ·simp at h1;exact h1.2.1
 refine⟨za ⟨⟨al,ls,acc⟩,A,n,c,A',n',c',rfl,⟨⟨rows,?_,?_⟩,hn,?_,a⟩,za hsh,?_,?_⟩,zaf g hc _ _ _⟩
 ·exact zq (zaF h.nx d (fun b h1 e=>oM)) hx.size
 ·exact (h.rows.keep d (fun b h1 e=>oM)).less hx.size
 ·have f:=zq (zaF h.acc d (fun b h1 e=>oM)) hx.size;rw [← a] at f;exact f
 ·exact (h.rd.more hM).frm d (fun k hk e=>oM)
 ·exact (((hx.dr.trans h.dr).ag (p:=⟨Z,0,none⟩) hZ _).ag (p:=⟨Z,1,none⟩) hZ _).ag (p:=⟨Z,2,none⟩) hZ _
end
theorem zdY (W:World) (h:base<=W.heap.size):∃ wb:World,wb.heap.size=base∧Ext wb W:=by
 refine⟨{ W with heap:=W.heap.extract 0 base },by simp;omega,⟨rfl,rfl,rfl,by simp;omega,fun k hk _=>?_⟩⟩
 have a:k<base:=by simp at hk;omega
 show W.heap[k]?=(W.heap.extract 0 base)[k]?;rw [Array.getElem?_extract];simp only [Nat.sub_zero,Nat.zero_add];rw [if_pos oM]
structure zgj (W:World) (S:Nat->Prop) (base N G:Nat) (al:Int) (v:Value) (ls:List (List Int)) (vA:Value) (acc:List Bool):Prop where
 gra:∃ wb:World,wb.heap.size=base∧Gra wb W G al v ls vA acc∧∃ rows,W.ownsRow base 110 1 v ls.length rows∧zC W base rows ls∧∀ (i:Nat) (r:Value) (b:Nat),rows[i]?=some r->r.ownBlock=some b->¬ S b∧b<N
 fG:¬ S G
 fv:∀ b,v.ownBlock=some b->¬ S b
 fA:∀ b,vA.ownBlock=some b->¬ S b
section
variable {J:zbx} {B b0 base N G:Nat} {S S':Nat->Prop} {W W':World} {al:Int} {v vA:Value} {ls:List (List Int)} {acc:List Bool}
theorem zgj.blk (h:zgj W S base N G al v ls vA acc):Blk W G 27 #[.int .i64 al,v,vA]:=by
 obtain⟨b,rfl,a,-⟩:=h.gra;exact a.blk
theorem zgj.frmT {T:Nat->Prop}(h:zgj W S base N G al v ls vA acc)(hf:Frm T W W')(hT:∀ b,b<W.heap.size->T b->S b∨(∀ (t:TypeId) (cs:Array Value),Blk W b t cs->t≠27∧t≠110∧t≠4∧t≠3))(hS:∀ b,b<W.heap.size->¬ S b->¬ S' b):zgj W' S' base N G al v ls vA acc:=by
 obtain⟨p,rfl,f,d,h1,h2,m⟩:=h.gra;obtain⟨wc,c,o⟩:=zdY W' (base:=p.heap.size) (eI f.ext.size hf.size);have z:¬ T G:=fun ht=>by
  rcases hT G f.blk.lt ht with j|j
  ·exact h.fG j
  ·exact (j _ _ f.blk).1 rfl
 have a:∀ {e:TypeId} {size n:Nat} {u:Value} {xs:List Value},W.ownsRow p.heap.size e size u n xs->(e=110∨e=4∨e=3)->(∀ b,u.ownBlock=some b->¬ S b)->∀ b,u.ownBlock=some b->¬ T b:=fun k he hs b hb ht=>by
  rcases hT b (k.lt b hb).2 ht with j|j
  ·exact hs b hb j
  ·rcases k.2 with ⟨h5,_⟩|⟨g,x,y,h5,_,B,_⟩
   ·rw [h5] at hb;simp [Value.ownBlock] at hb
   ·rw [h5] at hb;have:g=b:=by simpa [Value.ownBlock] using hb
    subst this;have:=j _ _ B;rcases he with rfl|rfl|rfl
    ·exact this.2.1 rfl
    ·exact this.2.2.1 rfl
    ·exact this.2.2.2 rfl
 have q:=zf h1 hf (a h1 (.inl rfl) h.fv);have s:zC W' p.heap.size d ls:=h2.frm hf (fun i r b hr hb=>by
  obtain⟨l,_,k⟩:=h2.row hr;exact a k (.inr (.inr rfl)) (fun b hb=>(m i r b hr hb).1) b hb)
 have C:=zf f.acc hf (a f.acc (.inr (.inl rfl)) h.fA);refine⟨⟨wc,c,⟨f.blk.frm hf z,⟨d,by rw [c];exact q,by rw [c];exact s⟩,by rw [c];exact C,o,by rw [c];exact f.hG⟩,d,q,s,fun i r b hr hb=>?_⟩,hS G f.blk.lt h.fG,fun b hb=>hS b (h1.lt b hb).2 (h.fv b hb),fun b hb=>hS b (f.acc.lt b hb).2 (h.fA b hb)⟩;obtain⟨l,_,k⟩:=h2.row hr;exact⟨hS b (k.lt b hb).2 (m i r b hr hb).1,(m i r b hr hb).2⟩
theorem zgj.kp (h:zgj W S base N G al v ls vA acc) (k:Kp J B S W W' S'):zgj W' S' base N G al v ls vA acc:=h.frmT k.frm (fun _ _ h=>.inl h) (fun _ hb hn=>k.out hb hn)
theorem zgj.ext (h:zgj W S base N G al v ls vA acc)(hx:Ext W W'):zgj W' S base N G al v ls vA acc:=h.frmT hx (fun _ _ h=>h.elim) (fun _ _ hn=>hn)
theorem zgj.grow {u:Value}  (h:zgj W S base N G al v ls vA acc)(ho:W.ownsRow N 3 1 u k xs)(hg:W.grownBy W' u.ownBlock):zgj W' S base N G al v ls vA acc:=by
 obtain⟨o,rfl,a,d,j,p,l⟩:=h.gra;have f:Frm (fun k=>u.ownBlock=some k) W W':=fV hg;obtain⟨wc,c,g⟩:=zdY W' (base:=o.heap.size) (eI a.ext.size f.size);have m:=zf j f (fun b hb e=>zas j ho dM hb e);have n:zC W' o.heap.size d ls:=p.frm f (fun i r b hr hb e=>by
  have h1:=(l i r b hr hb).2;have h2:=(ho.lt b e).1;omega)
 have q:=zf a.acc f (fun b hb e=>zas a.acc ho dM hb e);exact⟨⟨wc,c,⟨a.blk.frm f (fun e=>zr ho a.blk dM e rfl),⟨d,by rw [c];exact m,by rw [c];exact n⟩,by rw [c];exact q,g,by rw [c];exact a.hG⟩,d,m,n,l⟩,h.fG,h.fv,h.fA⟩
theorem zgj.reN (h:zgj W S base N G al v ls vA acc):zgj W S base W.heap.size G al v ls vA acc:=by
 obtain⟨g,rfl,d,a,h1,h2,c⟩:=h.gra;refine⟨⟨g,rfl,d,a,h1,h2,fun i r b hr hb=>⟨(c i r b hr hb).1,?_⟩⟩,h.fG,h.fv,h.fA⟩;obtain⟨l,_,f⟩:=h2.row hr;exact (f.lt b hb).2
theorem zgj.push (h:zgj W S base N G al v ls vA acc) (r1:W.ownsRow base 110 1 v ls.length rows) (r2:zC W base rows ls) (r3:∀ (i:Nat) (r:Value) (b:Nat),rows[i]?=some r->r.ownBlock=some b->¬ S b∧b<N)(hN:base<=N)
  (hrow:W.ownsRow N 3 1 row l.length (ints l)) (hrS:∀ b,row.ownBlock=some b->¬ S b) (hfr:∀ q,W.heap.size<=q->¬ S q)
  (zkf:W'.ownsRow base 110 1 (.slice (some g) (ls.length+1) cap) (ls.length+1) (rows++[row])) (hg:W.grownBy W' v.ownBlock) (hat:v.ownBlock=some g∨g=W.heap.size+1) :
  Blk W' G 27 #[al,v,vA]∧zgj (W'.setCell ⟨G,1,none⟩ (.slice (some g) (ls.length+1) cap)) S base (W'.setCell ⟨G,1,none⟩ (.slice (some g) (ls.length+1) cap)).heap.size G al (.slice (some g) (ls.length+1) cap) (ls++[l]) vA acc:=by
 obtain⟨p,rfl,a,-⟩:=h.gra;have o:Frm (fun k=>v.ownBlock=some k) W W':=fV hg;have n:Blk W' G 27 #[.int .i64 al,v,vA]:=a.blk.frm o (fun e=>zr r1 a.blk dM e rfl);have s:g≠G:=by
  rcases hat with h1|h1
  ·exact zr r1 a.blk dM h1
  ·have:=a.blk.lt;omega
 have j:zC W' p.heap.size (rows++[row]) (ls++[l]):=(r2.snoc2 (fun i r b hr hb=>(r3 i r b hr hb).2) hN hrow).frm o (fun i r b hr hb hS=>by
  obtain⟨x,_,f⟩:=(r2.snoc2 (fun i r b hr hb=>(r3 i r b hr hb).2) hN hrow).row hr;exact zas f r1 dM hb hS)
 have m:=zf a.acc o (fun b hb hS=>zas a.acc r1 dM hb hS);have c:=eB W' G 1 (.slice (some g) (ls.length+1) cap);have z:(ls++[l]).length=ls.length+1:=sM;have y:(W'.setCell ⟨G,1,none⟩ (.slice (some g) (ls.length+1) cap)).ownsRow p.heap.size 110 1 (.slice (some g) (ls.length+1) cap) (ls++[l]).length (rows++[row]):=by
  rw [z];exact zf zkf c (fun b hb e=>by obtain rfl:=zfj hb;exact s e)
 have u:zC (W'.setCell ⟨G,1,none⟩ (.slice (some g) (ls.length+1) cap)) p.heap.size (rows++[row]) (ls++[l]):=j.frm c (fun i r b hr hb hS=>by
  obtain⟨x,_,f⟩:=j.row hr;exact zr f n dM hb hS)
 have B:=zf m c (fun b hb hS=>zr m n dM hb hS);obtain⟨wc,d,t⟩:=zdY (W'.setCell ⟨G,1,none⟩ (.slice (some g) (ls.length+1) cap)) (base:=p.heap.size) (by have h1:=a.ext.size;have h2:=o.size;have C:=c.size;omega);refine⟨n,⟨⟨wc,d,⟨by simpa using n.ab 1 (.slice (some g) (ls.length+1) cap),⟨rows++[row],by rw [d];exact y,by rw [d];exact u⟩,by rw [d];exact B,t,by rw [d];exact a.hG⟩,rows++[row],y,u,fun i r b hr hb=>?_⟩,h.fG,fun b hb=>?_,h.fA⟩⟩
 ·obtain⟨x,_,f⟩:=u.row hr;refine⟨?_,(f.lt b hb).2⟩;rcases fM i rows.length with h1|h1
  ·rw [eH h1] at hr;exact (r3 i r b hr hb).1
  ·rw [eN h1] at hr;have h2:i - rows.length=0:=by
    have:=(List.getElem?_eq_some_iff.1 hr).1;simp at this;omega
   rw [h2] at hr;obtain rfl:row=r:=by simpa using hr
   exact hrS b hb
 ·obtain rfl:=zfj hb;rcases hat with e|e
  ·exact h.fv _ e
  ·exact hfr _ oM
theorem zgj.pushA (h:zgj W S base N G al v ls vA acc)(hfr:∀ q,W.heap.size<=q->¬ S q)
  (zkf:W'.ownsRow base 4 1 (.slice (some g) (acc.length+1) cap) (acc.length+1) (zak acc++[.bool x])) (hg:W.grownBy W' vA.ownBlock) (hat:vA.ownBlock=some g∨g=W.heap.size+1) :
  Blk W' G 27 #[al,v,vA]∧zgj (W'.setCell ⟨G,2,none⟩ (.slice (some g) (acc.length+1) cap)) S base N G al v ls (.slice (some g) (acc.length+1) cap) (acc++[x]):=by
 obtain⟨m,rfl,a,d,u,y,E⟩:=h.gra;have l:Frm (fun k=>vA.ownBlock=some k) W W':=fV hg;have j:Blk W' G 27 #[.int .i64 al,v,vA]:=a.blk.frm l (fun e=>zr a.acc a.blk dM e rfl);have n:g≠G:=by
  rcases hat with h1|h1
  ·exact zr a.acc a.blk dM h1
  ·have:=a.blk.lt;omega
 have s:=zf u l (fun b hb hS=>zas u a.acc dM hb hS);have t:zC W' m.heap.size d ls:=y.frm l (fun i r b hr hb hS=>by
  obtain⟨D,_,o⟩:=y.row hr;exact zas o a.acc dM hb hS)
 have c:=eB W' G 2 (.slice (some g) (acc.length+1) cap);have C:(acc++[x]).length=acc.length+1:=sM;have z:=zf s c (fun b hb hS=>zr s j dM hb hS);have B:zC (W'.setCell ⟨G,2,none⟩ (.slice (some g) (acc.length+1) cap)) m.heap.size d ls:=t.frm c (fun i r b hr hb hS=>by
  obtain⟨D,_,o⟩:=t.row hr;exact zr o j dM hb hS)
 have F:(W'.setCell ⟨G,2,none⟩ (.slice (some g) (acc.length+1) cap)).ownsRow m.heap.size 4 1 (.slice (some g) (acc.length+1) cap) (acc++[x]).length (zak (acc++[x])):=by
  rw [C,show zak (acc++[x])=zak acc++[.bool x] by simp [zak]];exact zf zkf c (fun b hb e=>by obtain rfl:=zfj hb;exact n e)
 obtain⟨wc,f,p⟩:=zdY (W'.setCell ⟨G,2,none⟩ (.slice (some g) (acc.length+1) cap)) (base:=m.heap.size) (by have h1:=a.ext.size;have h2:=l.size;have H:=c.size;omega);refine⟨j,⟨⟨wc,f,⟨by simpa using j.ab 2 (.slice (some g) (acc.length+1) cap),⟨d,by rw [f];exact z,by rw [f];exact B⟩,by rw [f];exact F,p,by rw [f];exact a.hG⟩,d,z,B,E⟩,h.fG,h.fv,fun b hb=>?_⟩⟩;obtain rfl:=zfj hb;rcases hat with e|e
 ·exact h.fA _ e
 ·exact hfr _ oM
end
theorem gra_first (hx:Ext w W)(hb:Blk W G 27 #[al,(),()])(hG:w.heap.size<=G)(hS:¬ S G):zgj W S w.heap.size W.heap.size G al (.slice none 0 0) [] (.slice none 0 0) []:=
 ⟨⟨w,rfl,⟨hb,⟨[],World.ownsRow_nil _ _ _ _,zC.nil _ _⟩,World.ownsRow_nil _ _ _ _,hx,hG⟩,[],World.ownsRow_nil _ _ _ _,zC.nil _ _,fun i r b hr=>by simp at hr⟩,hS,fun b hb=>by simp [Value.ownBlock] at hb,fun b hb=>by simp [Value.ownBlock] at hb⟩
structure AutS (W:World) (S:Nat->Prop) (base:Nat) (A:Option Addr) (n c:Nat) (A':Option Addr) (n' c':Nat) (a:Aut):Prop where
 own:∃ rows,W.ownsRow base 110 1 (.slice A n c) a.next.length rows∧zC W base rows a.next∧∀ (i:Nat) (r:Value) (b:Nat),rows[i]?=some r->r.ownBlock=some b->¬ S b
 acc:W.ownsRow base 4 1 (.slice A' n' c') a.acc.length (zak a.acc)
 fv:∀ b,(Value.slice A n c).ownBlock=some b->¬ S b
 fA:∀ b,(Value.slice A' n' c').ownBlock=some b->¬ S b
def RetAO (J:zbx) (a:Aut) (B:Nat) (S:Nat->Prop) (W:World) (e:Ending) (W':World):Prop:=
 ∃ (S':Nat->Prop) (A A':Option Addr) (n c n' c':Nat),e=.returned (.agg #[a.al,.slice A n c,.slice A' n' c'])∧AutS W' S' W.heap.size A n c A' n' c' a∧Kp J B S W W' S'
section
variable {J:zbx} {B b0 base N G:Nat} {S S':Nat->Prop} {W W':World} {al:Int} {ls:List (List Int)} {acc:List Bool} {A A':Option Addr} {n c n' c':Nat} {a:Aut}
theorem own_num {m:Nat}   (h:w.ownsRow base e size (.slice A n c) m xs):n=m:=by
 rcases h.2 with ⟨h1,h2⟩|⟨g,a,b,h1,_⟩
 ·injection h1 with _ h3;omega
 ·injection h1
theorem AutS.kp (h:AutS W S base A n c A' n' c' a) (k:Kp J B S W W' S'):AutS W' S' base A n c A' n' c' a:=by
 obtain⟨d,h1,h2,f⟩:=h.own;refine⟨⟨d,(k.row h1 h.fv).1,h2.frm k.frm (fun i r b hr hb=>f i r b hr hb),fun i r b hr hb=>?_⟩,(k.row h.acc h.fA).1,(k.row h1 h.fv).2,(k.row h.acc h.fA).2⟩;obtain⟨l,_,g⟩:=h2.row hr;exact k.out (g.lt b hb).2 (f i r b hr hb)
theorem AutS.ext (h:AutS W S base A n c A' n' c' a)(hx:Ext W W'):AutS W' S base A n c A' n' c' a:=by
 obtain⟨b,h1,h2,d⟩:=h.own;exact⟨⟨b,zh h1 hx,h2.ext hx,d⟩,zh h.acc hx,h.fv,h.fA⟩
theorem AutS.own_ (h:AutS W S base A n c A' n' c' a):zN W base A n c A' n' c' a:=by
 obtain⟨b,h1,h2,d⟩:=h.own;obtain rfl:=own_num h1;obtain rfl:=own_num h.acc;exact⟨⟨b,h1,h2⟩,rfl,h.acc,rfl⟩
theorem zgj.autS (h:zgj W S base N G al (.slice A n c) ls (.slice A' n' c') acc):AutS W S base A n c A' n' c' ⟨al,ls,acc⟩:=by
 obtain⟨k,rfl,d,a,f,g,j⟩:=h.gra;exact⟨⟨a,f,g,fun i r b hr hb=>(j i r b hr hb).1⟩,d.acc,h.fv,h.fA⟩
end
section
variable {J:zbx} {B b0 L base nr cr nc cc kn:Nat} {S S':Nat->Prop} {W W':World} {R C:Option Addr} {rows cols:List ByteArray} {f:ByteArray->Bool} {rc:Value}
theorem rnM_at {zs:List ByteArray} {y:ByteArray}(h:y∈zs):rnM zs y=some (ziQ zs y):=by
 unfold rnM;rw [zaw.2 h,if_pos rfl]
theorem aut_ret {u2:Value}(hJ:zbx.Ok b0 J)(hk:Kp J B S W w5 S5)(hA:AutS w5 S5 base A n c A' n' c' a)(hb:Blk w5 Z 27 #[u0,u1,u2])(hZ:¬ S5 Z)(hWZ:W.heap.size<=Z)(hbZ:b0<=Z)(hWb:W.heap.size<=base) :
  Blk (((w5.setCell Z a.al).setCell ⟨Z,1,none⟩ (.slice A n c)).setCell ⟨Z,2,none⟩ (.slice A' n' c')) Z 27 #[a.al,.slice A n c,.slice A' n' c']∧Kp J B S W (((w5.setCell Z a.al).setCell ⟨Z,1,none⟩ (.slice A n c)).setCell ⟨Z,2,none⟩ (.slice A' n' c')) S5 ∧
  AutS (((w5.setCell Z a.al).setCell ⟨Z,1,none⟩ (.slice A n c)).setCell ⟨Z,2,none⟩ (.slice A' n' c')) S5 W.heap.size A n c A' n' c' a:=by
 have f:=(eB w5 Z 0 (.int .i64 a.al)).trans ((eB _ Z 1 (.slice A n c)).trans (eB _ Z 2 (.slice A' n' c')));obtain⟨d,g,h,m⟩:=hA.own;refine⟨by simpa using ((hb.ab 0 (.int .i64 a.al)).ab 1 (.slice A n c)).ab 2 (.slice A' n' c'),hk.own hJ f (fun q _ e=>by have j:q=Z:=e;rw [j];exact⟨hWZ,hbZ,hZ⟩),⟨⟨d,zdt (zf g f (fun b hb' e=>zK g hb dM hb' e)) hWb,(h.frm f (fun i r b hr hb' e=>by
  obtain⟨l,_,k⟩:=h.row hr;exact zK k hb dM hb' e)).less hWb,m⟩,zdt (zf hA.acc f (fun b hb' e=>zK hA.acc hb dM hb' e)) hWb,hA.fv,hA.fA⟩⟩
theorem zeF (hO:zfE b0 L f J kn rc)(hj:J B W S)(hB:B+1692<10000000)(hT:zhb W S base R nr cr C nc cc rows cols)(hI:zbX L f rows cols)(hcl:zaJ L f rows cols=none)(hb0:b0<=W.heap.size)(hL:L<64) :
  Calls Tryz.prog 51 #[orcV L kn rc,.agg #[.slice R nr cr,.slice C nc cc]] W (RetAO J (zcN L f rows cols) (B+1692) S W):=by
 have u:=za hO;have HI:=za hI;have cB:=za (fun (r:ByteArray) (l:Nat) (hr:r∈rows) (hl:l∈letters L 6)=>zeE hcl hr hl);have hlr:=za hT.lens;have cO:nr<=12:=by rw [← hT.lens.1];exact hI.r12
 have bw:=za hI.c20;have aU:Ext W (((W.alloc (.cells #[(L:Int),.func (.func kn) #[rc] #[]] 83)).alloc (.cells #[.slice R nr cr,.slice C nc cc] 90)).alloc (.cells #[(0:Int),(),()] 27)):=(((dE _).alloc _).alloc _).alloc _;obtain⟨b2,b3,b4⟩:=zU (dE (((W.alloc (.cells #[(L:Int),.func (.func kn) #[rc] #[]] 83)).alloc (.cells #[.slice R nr cr,.slice C nc cc] 90)).alloc (.cells #[(0:Int),(),()] 27)));have D:=za (fun (q:Nat) (hq:W.heap.size<=q)=>zbx.fresh hO.ok hj hq);have b1:=hO.ok.keep hj aU (fun _ _ h=>h.elim);have bn:=za (hT.ext aU);have ds:W.heap.size<(((W.alloc (.cells #[(L:Int),.func (.func kn) #[rc] #[]] 83)).alloc (.cells #[.slice R nr cr,.slice C nc cc] 90)).alloc (.cells #[(0:Int),(),()] 27)).heap.size∧W.heap.size+1+1<(((W.alloc (.cells #[(L:Int),.func (.func kn) #[rc] #[]] 83)).alloc (.cells #[.slice R nr cr,.slice C nc cc] 90)).alloc (.cells #[(0:Int),(),()] 27)).heap.size:=by simp;omega
 have ci:Sm L:=tM;clear hO hI hT hcl;have di:=u.out.in_
 go_enter Tryz.func51,Tryz.ntmps51
 go_upto_region 1 with fail
 generalize ((W.alloc _).alloc _).alloc _=w1 at *;have k2:=b2.cell;have k3:=b3.cell;have bx:=za (zfV u.out b1 oM bn.out HI.out oM);obtain⟨zs,aL⟩:∃ zs,Hid (zaA f cols rows=zs):=⟨_,za rfl⟩;rw [aL.out] at bx;go_upto_region 2 with (go_at_call 124;refine bx.out.mono ?_;rintro e w2 ⟨S2,M,n,rfl,cb,bc,c8,da,an⟩)
 have B2:=za b2;have B3:=za b3;have B4:=za b4;have k2:=(an.blk b2 (D.out _ oM)).1.cell;obtain⟨w3,U0⟩:∃ x,Hid (w2.alloc (.cells #[(L:Int),(),()] 27)=x):=⟨_,za rfl⟩;have bo:=Ext.bl_ U0.out;have cQ:Ext w2 (w2.alloc (.cells #[(0:Int),(),()] 27)):=(dE _).alloc _;have c9:=bo.cell;have f9:=bo.frozen;go_upto_region 3 with fail
 have ak:=Ext.bl_ U0.out;have Z:Ext w2 w3:=((dE _).alloc _).trans (Ext.eq_ U0.out);obtain⟨G,bj⟩:∃ G,Hid (G=w2.heap.size):=⟨_,za rfl⟩;rw [← bj.out] at ak ⊢;have aZ:=za (fun (q:Nat) (hq:w2.heap.size<=q)=>zbx.fresh u.out.ok an.j hq);have cF:=za (aZ.out G (oH bj.out));have db:=an.size;have bk:w1.heap.size<=G:=oH bj.out;clear bo cQ c9 f9 b2 b3 b4 k3 bx b1;rw [U0.out] at *;have s:=za (an.ext u.out.ok Z);have bd:=za (show zfB w3 M n (rnM zs)∧¬ S2 M from ⟨cb.ext Z,bc⟩);obtain⟨wb,I,bg⟩:=zdY w3 (base:=w1.heap.size) (oH Z.size);have aA:=gra_first bg ak (by rw [I];exact bk) cF.out;rw [I] at aA;have a3:=za aA;have k3:=((an.ext u.out.ok Z).blk B3.out (D.out _ oM)).1.cell;clear an cb bc aA I bg ak Z k2 aZ;have ca:(letters L 6).length<=6:=zA L 6;go_wp2_with fail
 go_loopw [8,9,11,21] (fun _ _ _ iv wr=>∃ (i:Nat) (S1:Nat->Prop) (v vA:Value) (ls:List (List Int)) (g:List Bool),iv=.int .i64 i∧i<=nr∧Hid (Kp J (B+240+121*i) S w1 wr S1)∧Hid (zfB wr M n (rnM zs)∧¬ S1 M)∧Hid (zgj wr S1 w1.heap.size wr.heap.size G (L:Int) v ls vA g)∧Hid (ls=(rows.take i).map (zdI L f rows cols)∧g=(rows.take i).map f)) (fun _ _ _ iv _=>nr - (intOf iv).toNat)
 case atStart=>exact⟨0,S2,_,_,[],[],rfl,eC _,s,bd,a3,za ⟨sM,sM⟩⟩
 case round =>
  clear s bd a3 k3;obtain⟨i,S1,v,vA,ls,g,rfl,hi,U,H,o,ap⟩:=hrel;have k2:=(U.out.blk B2.out (D.out _ (dI _))).1.cell;have k3:=(U.out.blk B3.out (D.out _ oM)).1.cell
  by_cases hlt:i<nr
  ·have c7:(i:Int)<(nr:Int):=oM;obtain⟨x,hx⟩:∃ x,rows[i]?=some x:=⟨_,dH (oH hlr.out.1)⟩;have Hx:=za hx;obtain⟨gR,rfl,hc⟩:=zhS (bn.out.kp U.out).r.own hx;have aW:=za (dG hx);have dt:x.size<=12:=(HI.out.rin aW.out).2;have bf:=za (fun (q:Nat) (hq:wr.heap.size<=q)=>zbx.fresh u.out.ok U.out.j hq);clear hx;go_upto_block 2 with (go_at_call 67;refine (zag L ci _).mono ?_;rintro e w4 ⟨AL,cL,rfl,F,aV⟩)
   have b9:=za (fun l (hl:l∈letters L 6)=>zD.1 hl);obtain⟨d,ad⟩:∃ d,Hid (zdI L f rows cols x=d):=⟨_,za rfl⟩;have a0:=za (show ∀ (k l:Nat),(letters L 6)[k]?=some l->d[k]?=some ((ziQ zs (mkS (zbF f cols (x++zbY l))):Nat):Int) from fun k l hl=>by
    rw [← ad.out,← aL.out];unfold zdI;rw [eM,hl];rfl)
   have ax:=za (show d.length=(letters L 6).length by rw [← ad.out];simp [zdI]);have ay:=za (fun l hl=>cB.out x l aW.out hl);rw [aL.out] at ay;obtain⟨LL,cG⟩:∃ LL,Hid (letters L 6=LL):=⟨_,za rfl⟩;have bs:=ca;rw [cG.out] at F b9 a0 ax ay bs ⊢;have bq:=za (U.out.ext u.out.ok aV);have be:=za (show zfB w4 M n (rnM zs)∧¬ S1 M from ⟨H.out.1.ext aV,H.out.2⟩);have aG:=za (show zgk w4 S1 wr.heap.size 3 1 (.slice AL LL.length cL) LL.length (zac LL) from ⟨F,fun b hb=>bf.out b (F.lt b hb).1⟩);obtain⟨N,bm⟩:∃ N,Hid (N=w4.heap.size):=⟨_,za rfl⟩;have aY:=za (fun b hb=>(F.lt b hb).2);have aB:=(o.out.ext aV).reN;have bQ:=aY;rw [← bm.out] at aB bQ;clear aY;have aC:=za aB;have co:w1.heap.size<=N:=by have:=bq.out.size;have:=bm.out;omega
   have aH:=za (show zgk w4 S1 N 3 1 (.slice none 0 0) 0 (ints (d.take 0)) from ⟨World.ownsRow_nil _ _ _ _,fun b hb=>by simp [Value.ownBlock] at hb⟩);obtain⟨bl,bU⟩:∃ bl,Hid (bl=wr.heap.size):=⟨_,za rfl⟩;rw [← bU.out] at aG;clear F aV k2 k3 hc H bf o aB U;go_wp2_with fail
   go_loopw [9,11,29] (fun v9 _ kv wr=>∃ (k:Nat) (S3:Nat->Prop),kv=.int .i64 k∧k<=LL.length∧Hid (Kp J (B+240+121*i+20*k) S w1 wr S3)∧Hid (zfB wr M n (rnM zs)∧¬ S3 M)∧Hid (zgj wr S3 w1.heap.size N G (L:Int) v ls vA g)∧Hid (zgk wr S3 bl 3 1 (.slice AL LL.length cL) LL.length (zac LL))∧Hid (zgk wr S3 N 3 1 v9 k (ints (d.take k))∧N<=wr.heap.size)) (fun _ _ kv _=>LL.length - (intOf kv).toNat)
   case atStart=>exact⟨0,S1,rfl,eC _,bq,be,aC,aG,za ⟨aH.out,oH bm.out⟩⟩
   case round =>
    clear bq be aC aG aH;obtain⟨k,S3,rfl,hk,s,H,o,aF,V⟩:=hrel;have k2:=(s.out.blk B2.out (D.out _ (dI _))).1.cell;have k3:=(s.out.blk B3.out (D.out _ oM)).1.cell
    by_cases hkl:k<LL.length
    ·have c6:(k:Int)<(LL.length:Int):=oM;obtain⟨l,hl⟩:∃ l,LL[k]?=some l:=⟨_,dH hkl⟩;obtain⟨br,b7⟩:=b9.out l (dG hl);have aD:=za (ay.out l (dG hl));have aR:=za (a0.out k l hl);obtain⟨gl,rfl,-,-⟩:=zad aF.out.own oM;have cl:=zdd aF.out.own hkl;rw [eE,hl,Option.getD_some] at cl;have bV:∀ X:World,(convert 21 9 (.int .i32 (97+(l:Int)))).run Tryz.prog X=.ok (.string (zbY l)) X:=fun X=>by
      have:=conv_rune br X;rwa [Int.natCast_add] at this
     have cp:IntKind.i32.wrap (97+(l:Int))=97+(l:Int):=by
      simp [IntKind.wrap,IntKind.bits,IntKind.signed];omega
     have ae:=za (HI.out.snoc aW.out br b7);obtain⟨z,hz⟩:∃ z,Hid (zbY l=z):=⟨_,za rfl⟩;have dv:z.size=1:=by rw [← hz.out];exact zcC l
     obtain⟨y,hy⟩:∃ y,Hid (x++z=y):=⟨_,za rfl⟩;have cR:=za (show x++zbY l=y by rw [hz.out,hy.out]);rw [cR.out] at ae aD aR;have ck:¬ 9223372036854775807<x.size+1:=oM;rw [hz.out] at bV;obtain⟨m9,bt⟩:∃ m9,Hid (mkS (zbF f cols y)=m9):=⟨_,za rfl⟩;rw [bt.out] at aD aR;have bR:=za (rnM_at aD.out);obtain⟨q9,cP⟩:∃ q9,Hid (ziQ zs m9=q9):=⟨_,za rfl⟩;rw [cP.out] at bR aR;have cJ:=za (show domS m9 by rw [← bt.out];exact mkS_dom bw.out y);have du:=hy.out;obtain⟨A9,c9,rfl⟩:=zi V.out.1.own;go_upto_region 10 with fail
     have bB:=dE wr;have K2:∀ X,Ext wr X->∀ q,X.cell? ⟨W.heap.size,q,none⟩=#[Value.int .i64 (L:Int),.func (.func kn) #[rc] #[]][q]?:=fun X hX=>((s.out.blk B2.out (D.out _ (dI _))).1.ext hX).cell;have K3:∀ X,Ext wr X->∀ q,X.cell? ⟨W.heap.size+1,q,none⟩=#[Value.slice (some gR) nr cr,.slice C nc cc][q]?:=fun X hX=>((s.out.blk B3.out (D.out _ oM)).1.ext hX).cell;clear k2 k3 cl hl b7;refine uR (fun X=>Ext wr X) [10,11,12,13] (zw.of [0,1,2,3,4,5,6,7,8,9,10,11,12,13,14]) ?_;refine uQ ?_;refine ze fun K hK=>?_;go_simp;refine (zbA br _).mono ?_;rintro e w7 ⟨rfl,rfl⟩;refine hK.out _ _ bB.drew ?_;refine pT ?_;refine uQ ?_;refine zb fun K hK=>?_;have aq:=bB.drew;have T:=za (s.out.ext u.out.ok aq);have aK:=za (show zfB wr.drew M n (rnM zs)∧¬ S3 M from ⟨H.out.1.ext aq,H.out.2⟩);have a5:=za (o.out.ext aq);have a8:=za (aF.out.ext aq);have ba:=za (V.out.1.ext aq);have cH:N<=wr.drew.heap.size:=V.out.2;have bN:=za (bn.out.kp T.out);clear K2 K3 s H o aF V bB aq bV cp;generalize wr.drew=wd at *;have bu:=za (zhQ (x:=y) u.out T.out.j oM bN.out HI.out ae.out.1 (oH ae.out.2) (oH T.out.size));rw [bt.out] at bu;go_simp;refine bu.out.mono ?_;rintro e w5 ⟨S5,rfl,p⟩;refine hK.out _ _ ?_;refine pT ?_;obtain⟨aT,ch⟩:=zfB.kp aK.out.1 aK.out.2 p;have b5:=za (T.out.trans p);have E:=za (a5.out.kp p);have cd:=za (a8.out.kp p);have t:=za (ba.out.kp p);have bS:N<=w5.heap.size:=eI cH p.size;have az:=za (fun (q:Nat) (hq:w5.heap.size<=q)=>zbx.fresh u.out.ok p.j hq);clear bu p T aK a5 a8 ba bN;refine zb fun K hK=>?_;refine wp_mapAtG _ keyS _ _ rfl rfl aT m9 q9 rfl cJ.out bR.out ?_;refine hK.out _ _ ?_;refine pT ?_;refine zb fun K hK=>?_;go_simp;refine hK.out _ _ ?_;refine pT ?_;obtain⟨wn,bA,bh⟩:=zdY w5 bS;have bC:=t.out.own;rw [← bA] at bC;refine zb fun K hK=>?_;refine zaH wn w5 _ _ _ rfl 3 _ 1 8 Tryz.underlying110 zae rfl dM (.slice A9 k c9) k (ints (d.take k)) _ _ rfl rfl bh.size bC rfl (zbg _) lM oM ?_;intro g9 cap9 w9 hown9 hg9 hat9 hlt9;refine hK.out _ _ ?_;refine pT ?_;refine uQ ?_;refine zg ?_;rw [bA] at hown9;have cM:=za (b5.out.grown u.out.ok hg9 (fun q hq=>⟨by have:=(t.out.own.lt q hq).1;omega,by have:=(t.out.own.lt q hq).1;omega,t.out.far q hq⟩));have bZ:=za (E.out.grow t.out.own hg9);have aS:Frm (fun q=>(Value.slice A9 k c9).ownBlock=some q) w5 w9:=fV hg9;have cj:=za (show zfB w9 M n (rnM zs)∧¬ S5 M from ⟨aT.frm aS (fun e=>aT.aj t.out.own e),ch⟩);have ce:=za (cd.out.frm aS (fun b hb e=>by
      have h1:=(t.out.own.lt b e).1;have h2:=bQ.out b hb;omega))
     have bz:=za (show d.take (k+1)=d.take k++[(q9:Int)] by rw [eG,aR.out];rfl);have cg:=za (show zgk w9 S5 N 3 1 (.slice (some g9) (k+1) cap9) (k+1) (ints (d.take (k+1)))∧N<=w9.heap.size from
      ⟨⟨by rw [bz.out,ints,fO];exact hown9,fun b hb=>by
       obtain rfl:=zfj hb;rcases hat9 with e|e
       ·exact t.out.far _ e
       ·exact az.out _ oM⟩,eI bS aS.size⟩)
     clear hown9 hg9 hat9 bC bA bh aS ch aT;go_wp2_with fail
     go_roundw
     case rel=>exact⟨k+1,S5,gM,oM,za (by have:=cM.out;rwa [show B+240+121*i+20*k+20=B+240+121*i+20*(k+1) by omega] at this),cj,bZ,ce,cg⟩
     case measure=>simp [intOf];omega
    ·obtain rfl:k=LL.length:=oM;obtain⟨A9,c9,rfl⟩:=zi V.out.1.own;have a9:=za (show wr.ownsRow N 3 1 (.slice A9 LL.length c9) d.length (ints d) by
      have h1:=V.out.1.own;rw [eF (by rw [ax.out];exact dI _)] at h1;rw [ax.out];exact h1)
     obtain⟨m,r1,r2,r3⟩:∃ m,wr.ownsRow w1.heap.size 110 1 v ls.length m∧zC wr w1.heap.size m ls∧∀ (i:Nat) (r:Value) (b:Nat),m[i]?=some r->r.ownBlock=some b->¬ S3 b∧b<N:=by
      obtain⟨wb,I,-,m,h⟩:=o.out.gra;exact⟨m,h⟩
     have aj:=za r1;have bO:=za r2;have bP:=za r3;have bY:=za (fun (q:Nat) (hq:wr.heap.size<=q)=>zbx.fresh u.out.ok s.out.j hq);have cN:ls.length<=12:=by rw [ap.out.1];simp;omega
     have kG:=o.out.blk.cell;have cn:w1.heap.size<=wr.heap.size:=s.out.size;obtain⟨Av,cv,rfl⟩:=zi r1;clear r1 r2 r3;go_upto_region 13 with (at_builtin;refine zW w1 wr rfl _ _ _ rfl 110 _ 1 24 Tryz.underlying24 zcB rfl dM (.slice Av ls.length cv) ls.length m _ _ rfl rfl cn aj.out rfl (zbc _ _ _) lM oM ?_;intro g7 cap7 w7 hown7 hg7 hat7 hlt7;obtain⟨aQ,ag⟩:=o.out.push aj.out bO.out bP.out co a9.out V.out.1.far bY.out hown7 hg7 hat7;have k7:=aQ.cell;have f7:=aQ.frozen)
     have a2:Frm (fun q=>(Value.slice Av ls.length cv).ownBlock=some q) wr w7:=fV hg7;have Y:zfB w7 M n (rnM zs):=H.out.1.frm a2 (fun e=>H.out.1.aj aj.out e);have aJ:=za (show zfB (w7.setCell ⟨G,1,none⟩ (.slice (some g7) (ls.length+1) cap7)) M n (rnM zs)∧¬ S3 M from ⟨Y.frm (eB w7 G 1 _) (fun e=>Y.far aQ e.symm),H.out.2⟩);have aE:=za ((s.out.grown u.out.ok hg7 (fun q hq=>⟨(aj.out.lt q hq).1,by have:=(aj.out.lt q hq).1;omega,o.out.fv q hq⟩)).cell u.out.ok bk oM o.out.fG 1 (.slice (some g7) (ls.length+1) cap7));have Q:=za ag;clear hown7 hg7 hat7 aQ ag k7 f7 Y a2 kG s H o aF V a9 aj bO bP bY k2 k3;generalize w7.setCell ⟨G,1,none⟩ (.slice (some g7) (ls.length+1) cap7)=w8 at *;have C6:∀ X,Frm S3 w8 X->∀ q,X.cell? ⟨G,q,none⟩=#[Value.int .i64 (L:Int),.slice (some g7) (ls.length+1) cap7,vA][q]?:=fun X hX=>(Q.out.blk.frm hX Q.out.fG).cell;have C2:∀ X,Frm S3 w8 X->∀ q,X.cell? ⟨W.heap.size,q,none⟩=#[Value.int .i64 (L:Int),.func (.func kn) #[rc] #[]][q]?:=fun X hX =>
      ((aE.out.blk B2.out (D.out _ (dI _))).1.frm hX (aE.out.blk B2.out (D.out _ (dI _))).2).cell
     have bX:Frm S3 w8 w8.drew:=(dE w8).drew.ak;obtain⟨A2,c2,rfl⟩:∃ A2 c2,vA=.slice A2 g.length c2:=by
      obtain⟨wb,I,am,-⟩:=Q.out.gra;obtain⟨A2,c2,h⟩:=zi am.acc;exact⟨A2,c2,h⟩
     have a1:=za (u.out.ask _ w8.drew S3 x (u.out.ok.keep aE.out.j (dE w8).drew (fun _ _ h=>h.elim)) oM (HI.out.rin aW.out).1 oM);obtain⟨bb,ak⟩:∃ bb,Hid (f x=bb):=⟨_,za rfl⟩;rw [ak.out] at a1;have c5:g.length<=12:=by rw [ap.out.2];simp;omega
     refine uR (fun X=>Frm S3 w8 X) [7,9] (zw.of [0,1,2,3,4,5,6,7,8,9]) ?_;refine uQ ?_;refine ze fun K hK=>?_;go_simp;refine a1.out.mono ?_;rintro e w5 ⟨S5,rfl,p⟩;have bp:=bX.trans p.frm;refine hK.out _ _ bp ?_;refine pT ?_;have E:=za ((Q.out.ext (dE w8).drew).kp p);have ah:=zfB.kp (aJ.out.1.ext (dE w8).drew) aJ.out.2 p;have a7:=za ((aE.out.ext u.out.ok (dE w8).drew).trans p);have az:=za (fun (q:Nat) (hq:w5.heap.size<=q)=>zbx.fresh u.out.ok p.j hq);obtain⟨aw,cm⟩:w5.ownsRow w1.heap.size 4 1 (.slice A2 g.length c2) g.length (zak g)∧w1.heap.size<=w5.heap.size:=by
      obtain⟨wb,I,am,-⟩:=E.out.gra;have h1:=am.acc;rw [I] at h1;exact⟨h1,oH am.ext.size⟩
     refine ze fun K hK=>?_;go_simp;refine hK.out _ _ (bp.ext ((dE w5).alloc _)) ?_;refine pT ?_;refine zb fun K hK=>?_;refine zaH w1 w5 _ _ _ rfl 4 _ 1 1 Tryz.underlying25 zbh rfl dM (.slice A2 g.length c2) g.length (zak g) _ _ rfl rfl cm aw rfl (by simp [Value.oneCell']) lM oM ?_;intro g6 cap6 w6 hown6 hg6 hat6 hlt6;obtain⟨aP,a4⟩:=E.out.pushA (x:=bb) az.out hown6 hg6 hat6;have k6:=aP.cell;have f6:=aP.frozen;refine hK.out _ _ ?_;refine pT ?_;refine uQ ?_;refine zb fun K hK=>?_;go_simp;refine hK.out _ _ ?_;refine zg ?_;have bW:Frm (fun q=>(Value.slice A2 g.length c2).ownBlock=some q) w5 w6:=fV hg6;have aI:zfB w6 M n (rnM zs):=ah.1.frm bW (fun e=>ah.1.aj aw e);have Y:=za (show zfB (w6.setCell ⟨G,2,none⟩ (.slice (some g6) (g.length+1) cap6)) M n (rnM zs)∧¬ S5 M from ⟨aI.frm (eB w6 G 2 _) (fun e=>aI.far aP e.symm),ah.2⟩);have cK:=za (((a7.out.grown u.out.ok hg6 (fun q hq=>⟨(aw.lt q hq).1,by have:=(aw.lt q hq).1;omega,E.out.fA q hq⟩)).cell u.out.ok bk oM E.out.fG 2 (.slice (some g6) (g.length+1) cap6)).more u.out.ok (show _<=B+240+121*(i+1) by omega));have ag:=za a4.reN;have b6:=za (show ls++[d]=(rows.take (i+1)).map (zdI L f rows cols)∧g++[bb]=(rows.take (i+1)).map f by
      rw [eG,Hx.out,e8,fO,fO,← ap.out.1,← ap.out.2,← ad.out,← ak.out];exact⟨rfl,rfl⟩)
     clear hown6 hg6 hat6 aP a4 k6 f6 aI bW aw E ah a7 bp p bX C6 C2 aJ aE Q;generalize w6.setCell ⟨G,2,none⟩ (.slice (some g6) (g.length+1) cap6)=w9 at *;go_wp2_with fail
     go_roundw
     case rel=>exact⟨i+1,S5,_,_,_,_,gM,oM,cK,Y,ag,b6⟩
     case measure=>simp [intOf];omega
  ·obtain rfl:i=nr:=oM;have b8:=hlr.out.1;have bz:=za (show rows.take i=rows from eF oM);have cI:=za (show (⟨(L:Int),ls,g⟩:Aut)=zcN L f rows cols by
    have h1:=ap.out.1;have h2:=ap.out.2;rw [bz.out] at h1 h2;rw [h1,h2];rfl)
   obtain⟨Av,nv,cv,rfl⟩:∃ A n c,v=.slice A n c:=by
    obtain⟨wb,I,-,m,h,-⟩:=o.out.gra;obtain⟨A,c,e⟩:=zi h;exact⟨A,_,c,e⟩
   obtain⟨A2,n2,c2,rfl⟩:∃ A n c,vA=.slice A n c:=by
    obtain⟨wb,I,am,-⟩:=o.out.gra;obtain⟨A,c,e⟩:=zi am.acc;exact⟨A,_,c,e⟩
   have hA:=o.out.autS;rw [cI.out] at hA;have HA:=za hA;have kG:=o.out.blk.cell;have O:=U.out.blk B4.out (D.out _ oM);have k4:=O.1.cell;have f4:=O.1.frozen;have a6:=za ((U.out.more u.out.ok (show B+240+121*i<=B+1692 by omega)).back aU);have ck:=aU.size;clear k2 k3 hA b8;go_wp2_with fail
   have zki:=aut_ret (a:=zcN L f rows cols) u.out.ok a6.out HA.out O.1 O.2 oM oM ck;have cf:=zki.1.cell;have Hfin:=za zki.2;have bT:(zcN L f rows cols).al=(L:Int):=rfl;rw [bT] at cf Hfin;clear zki k4 f4 O a6 kG;generalize ((wr.setCell ⟨W.heap.size+1+1,0,none⟩ (.int .i64 (L:Int))).setCell ⟨W.heap.size+1+1,1,none⟩ (.slice Av nv cv)).setCell ⟨W.heap.size+1+1,2,none⟩ (.slice A2 n2 c2)=w9 at *;exact bodyPost_ret (v:=.agg #[(L:Int),.slice Av nv cv,.slice A2 n2 c2]) (by simp [results,Tryz.results51,go_sem,cf]) rfl ⟨S1,Av,A2,nv,cv,n2,c2,rfl,Hfin.out.2,Hfin.out.1⟩
end
theorem zcx {p:Aut} {f:Nat->Bool} {ls:List Nat}:∀ {q:Nat},(∀ l∈ls,p.al.toNat.testBit l=true->f l=true)->zaW p q (ls.filter f)=zaW p q ls:=by
 induction ls with
 |nil=>intro q _;rfl
 |cons l r a =>
  intro q h;have a:=fun {q}=>a (q:=q) (fun k hk=>h k (eZ _ hk));rw [List.filter_cons];show _=zaW p (aGo p q l) r;cases hf:f l
  ·have e:aGo p q l=q:=by
    unfold aGo;rw [if_neg];intro hb;have:=h l iG hb;rw [hf] at this;cases this
   rw [e];simpa using a
  ·simp only [if_true];exact a
theorem goes_filter {f:Nat->Bool}:∀ (n:Nat) (v:List Nat),v.length=n->(∀ l∈v,s.al.toNat.testBit l=true->f l=true)->∀ q,zbe (cho s) [0] (v.filter f) q↔zbe (cho s) [0] v q:=by
 intro n
 induction n with
 |zero =>
  intro v hl _ q;obtain rfl:=eJ hl;exact Iff.rfl
 |succ n b =>
  intro v hl h q;rcases zY v with rfl|⟨u,l,rfl⟩
  ·simp at hl
  have b:=b u (by simpa using hl) (fun k hk=>h k (by simp [hk]));rw [iW];cases hf:f l
  ·have c:s.al.toNat.testBit l=false:=by
    rw [fT];intro c;have:=h l sM c;rw [hf] at this;cases this
   rw [show List.filter f [l]=[] by simp [hf],gS,b];constructor
   ·intro h1;exact .snoc h1 (by unfold cho;rw [c];simp)
   ·intro h1;obtain⟨m,h2,a⟩:=h1.inv;unfold cho at a;rw [c] at a;simp at a;rw [a];exact h2
  ·rw [show List.filter f [l]=[l] by simp [hf]];constructor
   ·intro h1;obtain⟨m,h2,a⟩:=h1.inv;exact .snoc ((b m).1 h2) a
   ·intro h1;obtain⟨m,h2,a⟩:=h1.inv;exact .snoc ((b m).2 h2) a
theorem zdf {f:Nat->Bool} {v:List Nat}(h:∀ l∈v,s.al.toNat.testBit l=true->f l=true):zgl s (v.filter f)↔zgl s v:=exists_congr fun q=>goes_filter _ v rfl h q
theorem zdj (ss:List Sys) (l:Nat):(zB ss).testBit l=true↔∃ s∈ss,s.al.toNat.testBit l=true:=by
 have b:∀ (ss:List Sys) (u:Nat),(ss.foldl (fun a s=>a|||s.al.toNat) u).testBit l=true↔u.testBit l=true∨∃ s∈ss,s.al.toNat.testBit l=true:=by
  intro ss
  induction ss with
  |nil=>intro u;simp
  |cons s r ih =>
   intro u;rw [List.foldl_cons,ih,iM,iC];simp [or_assoc]
 have:=b ss 0;simpa [zB] using this
def ziG (A:Nat) (v:List Nat):Prop:=∀ l∈v,l<6∧A.testBit l=true
theorem zeg {A:Nat} {v:List Nat}:(∀ l∈v,l∈letters A 6)↔ziG A v:=by unfold ziG;simp only [zD]
theorem keepsU_iff {p:Aut}:zcK s a p=true↔(zk s=true∧zj a=true∧zj p=true)∧∀ v,ziG (s.al.toNat|||a.al.toNat) v->zgl s v->zct a (zaW a 0 v)=true->zct p (zaW p 0 v)=true:=by
 unfold zcK zcL;simp only [eD,iR];constructor
 ·rintro ⟨⟨h1,h2,b⟩,d⟩;refine⟨⟨h1,h2,b⟩,fun v c h f=>?_⟩;cases g:zct p (zaW p 0 v)
  ·have:=(zkd (ss:=[s]) (by simpa using h1) h2 b).2 ⟨v,zeg.2 (by simpa [zB] using c),by simpa using h,f,g⟩;rw [d] at this;cases this
  ·rfl
 ·rintro ⟨⟨h1,h2,b⟩,d⟩;refine⟨⟨h1,h2,b⟩,?_⟩;rw [fT];intro c;obtain⟨v,c,h,f,g⟩:=(zkd (ss:=[s]) (by simpa using h1) h2 b).1 c;have:=d v (by have:=zeg.1 c;simpa [zB] using this) (h s sM) f;rw [g] at this;cases this
theorem runA_free (q:Nat) (v:List Nat):zaW free q v=q:=by
 induction v generalizing q with
 |nil=>rfl
 |cons l r ih =>
  show zaW free (aGo free q l) r=q;rw [show aGo free q l=q by simp [aGo,free],ih]
theorem zgs {p:Aut}:zcf ss p=true↔(zy ss=true∧zj p=true)∧∀ v,ziG (zB ss) v->(∀ s∈ss,zgl s v)->zct p (zaW p 0 v)=true:=by
 unfold zcf zbi;simp only [eD,iR];have h:∀ v,zct free (zaW free 0 v)=true:=fun v=>by rw [runA_free];rfl
 have g:zB ss|||free.al.toNat=zB ss:=by simp [free]
 constructor
 ·rintro ⟨⟨h1,h2⟩,c⟩;refine⟨⟨h1,h2⟩,fun v b f=>?_⟩;cases d:zct p (zaW p 0 v)
  ·have:=(zkd (a:=free) (zao h1).2 zbu h2).2 ⟨v,zeg.2 (by rw [g];exact b),f,h v,d⟩;rw [c] at this;cases this
  ·rfl
 ·rintro ⟨⟨h1,h2⟩,c⟩;refine⟨⟨h1,h2⟩,?_⟩;rw [fT];intro b;obtain⟨v,b,f,i,d⟩:=(zkd (a:=free) (zao h1).2 zbu h2).1 b;have:=c v (by rw [g] at b;exact zeg.1 b) f;rw [d] at this;cases this
theorem ag_sound {p:Aut}(hu:zcK s a p=true)(hk:zcf ts a=true)(hl:a.al.toNat=(s.al.toNat|||p.al.toNat)&&&zB ts)(hp:zy (s :: ts)=true):zcf (s :: ts) p=true:=by
 obtain⟨⟨h1,h2,q⟩,r⟩:=keepsU_iff.1 hu;obtain⟨⟨h5,B⟩,x⟩:=zgs.1 hk;refine zgs.2 ⟨⟨hp,q⟩,fun v hv hr=>?_⟩;have b:∀ l,a.al.toNat.testBit l=true↔(s.al.toNat.testBit l=true∨p.al.toNat.testBit l=true)∧(zB ts).testBit l=true:=by
  intro l;rw [hl,iE,iM,eD,iC]
 have k:ziG (s.al.toNat|||a.al.toNat) (v.filter fun l=>(s.al.toNat|||a.al.toNat).testBit l):=fun l hl=>by
  obtain⟨i,j⟩:=List.mem_filter.1 hl;exact⟨(hv l i).1,j⟩
 have m:ziG (zB ts) (v.filter fun l=>(zB ts).testBit l):=fun l hl=>by
  obtain⟨i,j⟩:=List.mem_filter.1 hl;exact⟨(hv l i).1,j⟩
 have f:∀ l,s.al.toNat.testBit l=true->(s.al.toNat|||a.al.toNat).testBit l=true:=fun l h=>by rw [iM,h];rfl
 have g:∀ l,a.al.toNat.testBit l=true->(s.al.toNat|||a.al.toNat).testBit l=true:=fun l h=>by rw [iM,h,Bool.or_true]
 have y:=(zdf (fun l _ h=>f l h)).2 (hr s iG);have z:∀ t∈ts,zgl t (v.filter fun l=>(zB ts).testBit l):=fun t ht=>(zdf (fun l _ h=>(zdj ts l).2 ⟨t,ht,h⟩)).2 (hr t (eZ _ ht));have n:=x _ m z;rw [zcx (fun l _ h=>((b l).1 h).2)] at n;have o:=r _ k y;rw [zcx (fun l _ h=>g l h),zcx (fun l hl h=>?_)] at o
 ·exact o n
 ·cases hs:s.al.toNat.testBit l
  ·refine g l ((b l).2 ⟨.inr h,?_⟩);obtain⟨u,c,d⟩:=(zdj _ l).1 (hv l hl).2;rcases List.mem_cons.1 c with rfl|c
   ·rw [hs] at d;cases d
   ·exact (zdj ts l).2 ⟨u,c,d⟩
  ·exact f l hs
theorem runB_goes {p:Nat}(hf:Few p s.edges)(hp:p<=16):∀ (n:Nat) (v:List Nat),v.length=n->(∀ l∈v,s.al.toNat.testBit l=true)->∀ q,(runB s.edges 1 v).testBit q=true↔zbe (cho s) [0] v q:=by
 intro n
 induction n with
 |zero =>
  intro v hl _ q;obtain rfl:=eJ hl;constructor
  ·intro h;refine .nil ?_;cases q with
   |zero=>simp
   |succ q =>
    exfalso;have h1:(1:Nat).testBit (q+1)=true:=h;rw [Nat.testBit_succ] at h1;simp at h1
  ·intro h;have:=h.ah;simp at this;subst this;show (1:Nat).testBit 0=true;decide
 |succ n b =>
  intro v hl h q;rcases zY v with rfl|⟨u,l,rfl⟩
  ·simp at hl
  have b:=b u (by simpa using hl) (fun k hk=>h k (by simp [hk]));rw [runB_snoc,zdV];have d:=h l sM;constructor
  ·rintro ⟨e,a,⟨h1,h2⟩,rfl⟩;have i:=hf e a;refine .snoc ((b _).1 h2) ?_;unfold cho;rw [if_pos d];refine zD.2 ⟨oM,(zcU _ _ _ _).2 ⟨e,a,⟨oM,h1⟩,rfl⟩⟩
  ·intro h1;obtain⟨m,h2,c⟩:=h1.inv;unfold cho at c;rw [if_pos d] at c;obtain⟨e,a,⟨f,h5⟩,g⟩:=(zcU _ _ _ _).1 (zD.1 c).2;exact⟨e,a,⟨h5,by rw [f];simpa using (b m).2 h2⟩,g⟩
theorem bits_some {x:Nat}:(x != 0)=true↔∃ q,x.testBit q=true:=by
 rw [bne_iff_ne];constructor
 ·intro h;apply Classical.byContradiction;intro hn;refine h (gY fun q=>?_);rw [jM,fT];exact fun a=>hn ⟨q,a⟩
 ·rintro ⟨q,a⟩ rfl;rw [jM] at a;cases a
theorem aft_runs {x:ByteArray}(hv:zk s=true)(hw:zbj x=true):(aftB s (zan x s.al.toNat) != 0)=true↔zgl s (wl x):=by
 obtain⟨p,_,_,a,b⟩:=zcE hv;unfold aftB;rw [hv,zcg hw,Bool.and_self,if_pos rfl,wl_restB hw,bits_some];refine Iff.trans ?_ (zdf (f:=fun l=>s.al.toNat.testBit l) (fun l _ h=>h));exact exists_congr fun q=>runB_goes b a _ _ rfl (fun l hl=>by simpa using (List.mem_filter.1 hl).2) q
theorem top_iff {x:ByteArray}:topB ss x=true↔zy ss=true∧zbj x=true∧ziG (zB ss) (wl x)∧∀ s∈ss,zgl s (wl x):=by
 unfold topB;simp only [eD,fH];constructor
 ·rintro ⟨h1,h2,a⟩;have c:=zaT h2;refine⟨h1,c,fun l hl=>⟨wl_lt c l hl,?_⟩,fun s hs=>(aft_runs ((zao h1).2 s hs) c).1 (a s hs)⟩;have b:=(zft.1 h2).2;have h5:=(zea (wl x) l).2 hl;rw [← b,iE,eD] at h5;exact h5.2
 ·rintro ⟨h1,h2,a,b⟩;refine⟨h1,zft.2 ⟨h2,gY fun k=>?_⟩,fun s hs=>(aft_runs ((zao h1).2 s hs) h2).2 (b s hs)⟩;rw [iE];cases hk:(alB (wl x)).testBit k
  ·rfl
  ·rw [(a k ((zea _ k).1 hk)).2];rfl
theorem zcT (h1:1<=ss.length)(h3:ss.length<=3)(hv:∀ s∈ss,zk s=true):zy ss=true:=by
 unfold zy;simp only [eD,decide_eq_true_eq,fH];exact⟨h1,h3,hv⟩
theorem zgd {p:Aut}:three ss p=true↔ss.length=3∧zy ss=true∧zj p=true:=by
 unfold three;simp only [eD,decide_eq_true_eq]
theorem chain_nat {x y z:Sys} {p:Aut}(h:three [x,y,z] p=true) :
  zay [x,y,z] p=(((x.al.toNat|||p.al.toNat)&&&(y.al.toNat|||z.al.toNat):Nat):Int) ∧
  zcb [x,y,z] p=(((y.al.toNat|||(zay [x,y,z] p).toNat)&&&z.al.toNat:Nat):Int):=by
 obtain⟨_,h2,o⟩:=zgd.1 h;obtain⟨_,j⟩:=zao h2;have u:=zG (j x sM);have v:=zG (j y sM);have B:=zG (j z sM);have t:=(zl o).1;have k:zay [x,y,z] p=(((x.al.toNat|||p.al.toNat)&&&(y.al.toNat|||z.al.toNat):Nat):Int):=by
  unfold zay;rw [h,if_pos rfl];obtain⟨a,q⟩:∃ a:Nat,x.al=a:=⟨x.al.toNat,oM⟩;obtain⟨b,f⟩:∃ a:Nat,y.al=a:=⟨y.al.toNat,oM⟩;obtain⟨c,g⟩:∃ a:Nat,z.al=a:=⟨z.al.toNat,oM⟩;obtain⟨d,s⟩:∃ a:Nat,p.al=a:=⟨p.al.toNat,oM⟩;dsimp only;rw [q,f,g,s];have k:=e7 (n:=6) (x:=a) (y:=d) oM oM;have m:=e7 (n:=6) (x:=b) (y:=c) oM oM;rw [zbb tM tM,zbb tM tM,zbZ tM tM];simp only [fF]
 refine⟨k,?_⟩;obtain⟨l,i,r⟩:=zgo h;unfold zcb;rw [h,if_pos rfl,i];obtain⟨b,f⟩:∃ a:Nat,y.al=a:=⟨y.al.toNat,oM⟩;obtain⟨c,g⟩:∃ a:Nat,z.al=a:=⟨z.al.toNat,oM⟩;dsimp only;rw [f,g];have m:=e7 (n:=6) (x:=b) (y:=l) oM oM;rw [zbb tM tM,zbZ tM tM];simp only [fF]
theorem fault_zero {p f g:Aut}:faultN ss p f g=0↔∃ x y z,ss=[x,y,z]∧three ss p=true∧zj f=true∧zj g=true∧f.al=zay ss p∧g.al=zcb ss p∧zcK x f p=true∧zcK y g f=true∧zcf [z] g=true:=by
 constructor
 ·intro h;unfold faultN at h
  by_cases h1:(three ss p&&(zj f&&zj g))=false
  ·rw [if_pos h1] at h;omega
  rw [if_neg h1] at h
  by_cases h2:(decide (f.al=zay ss p)&&decide (g.al=zcb ss p))=false
  ·rw [if_pos h2] at h;omega
  rw [if_neg h2] at h;simp only [j7,eD,decide_eq_true_eq] at h1 h2;obtain⟨x,y,z,rfl⟩:=zdX h1.1;dsimp only at h
  by_cases a:(zcK x f p&&zcK y g f)=false
  ·rw [if_pos a] at h;omega
  rw [if_neg a] at h
  by_cases b:zcf [z] g=false
  ·rw [if_pos b] at h;omega
  simp only [j7,eD] at a b;exact⟨x,y,z,rfl,h1.1,h1.2.1,h1.2.2,h2.1,h2.2,a.1,a.2,b⟩
 ·rintro ⟨x,y,z,rfl,h1,h2,a,b,h5,c,d,i⟩;unfold faultN;rw [if_neg (by rw [h1,h2,a];decide),if_neg (by rw [decide_eq_true b,decide_eq_true h5];decide)];dsimp only;rw [if_neg (by rw [c,d];decide),if_neg (by rw [i];decide)]
theorem zda {p:Aut}(hs:zk s=true)(hp:zj p=true)(ht:zk t=true):iface s p t=(((s.al.toNat|||p.al.toNat)&&&t.al.toNat:Nat):Int):=by
 unfold iface;rw [hs,hp,ht];rfl
theorem zhx {p:Aut}:faultA s t p a=0↔0<=iface s p t∧zj a=true∧a.al=iface s p t∧zcK s a p=true∧zcf [t] a=true:=by
 unfold faultA;constructor
 ·intro h
  by_cases h1:iface s p t<0∨zj a=false
  ·rw [if_pos h1] at h;omega
  rw [if_neg h1] at h
  by_cases h2:a.al≠iface s p t
  ·rw [if_pos h2] at h;omega
  rw [if_neg h2] at h
  by_cases b:zcK s a p=false
  ·rw [if_pos b] at h;omega
  rw [if_neg b] at h
  by_cases c:zcf [t] a=false
  ·rw [if_pos c] at h;omega
  simp only [j7] at b c;refine⟨?_,?_,Classical.not_not.1 h2,b,c⟩
  ·apply Classical.byContradiction;intro hn;exact h1 (.inl oM)
  ·cases hb:zj a
   ·exact absurd (.inr hb) h1
   ·rfl
 ·rintro ⟨h1,h2,b,c,h5⟩;rw [if_neg (by rintro (h|h);omega;rw [h2] at h;cases h),if_neg (by intro h;exact h b),if_neg (by rw [c];decide),if_neg (by rw [h5];decide)]
theorem zbz {p:Aut}(h:0<=iface s p t):zk s=true∧zj p=true∧zk t=true:=by
 have h1:¬ iface s p t<0:=oM;rw [iface_neg] at h1;simpa using h1
theorem faultA_sound {p:Aut}(h:faultA s t p a=0):zcf [s,t] p=true:=by
 obtain⟨h1,h2,d,f,h5⟩:=zhx.1 h;obtain⟨b,g,c⟩:=zbz h1;refine ag_sound f h5 ?_ (zcT sM sM (by simp;exact⟨b,c⟩));rw [d,zda b g c];simp [zB]
theorem shuffle (a b:Nat->Bool):∀ (n:Nat) (v u:List Nat),v.length+u.length<=n->(∀ l∈v,a l=true)->(∀ l∈u,b l=true)->v.filter b=u.filter a ->
  ∃ z:List Nat,z.filter a=v∧z.filter b=u∧∀ l∈z,l∈v∨l∈u:=by
 intro n
 induction n with
 |zero =>
  intro v u hn _ _ _;obtain rfl:=eJ (show v.length=0 by omega);obtain rfl:=eJ (show u.length=0 by omega);exact⟨[],rfl,rfl,sM⟩
 |succ n ih =>
  intro v u hn hv hu he
  match v,u with
  |[],[]=>exact⟨[],rfl,rfl,sM⟩
  |[],m :: u =>
   have g:a m=false:=by
    cases g:a m
    ·rfl
    ·rw [j2,fK g] at he;cases he
   obtain⟨z,h1,h2,d⟩:=ih [] u (by simp at hn ⊢;omega) sM (fun l f=>hu l (eZ _ f)) (by rw [fY (by rw [g];decide)] at he;exact he);refine⟨m :: z,by rw [fY (by rw [g];decide)];exact h1,by rw [fK (hu m sM),h2],fun l f=>?_⟩;rcases List.mem_cons.1 f with rfl|f
   ·exact .inr sM
   ·rcases d l f with h|h
    ·exact .inl h
    ·exact .inr (eZ _ h)
  |l :: v,u =>
   cases hb:b l
   ·obtain⟨z,h1,h2,d⟩:=ih v u (by simp at hn ⊢;omega) (fun x c=>hv x (eZ _ c)) hu (by rw [fY (by rw [hb];decide)] at he;exact he);refine⟨l :: z,by rw [fK (hv l sM),h1],by rw [fY (by rw [hb];decide)];exact h2,fun x c=>?_⟩;rcases List.mem_cons.1 c with rfl|c
    ·exact .inl sM
    ·rcases d x c with h|h
     ·exact .inl (eZ _ h)
     ·exact .inr h
   ·cases u with
    |nil=>rw [fK hb,j2] at he;cases he
    |cons m u =>
     cases ha:a m
     ·obtain⟨z,h1,h2,d⟩:=ih (l :: v) u (by simp at hn ⊢;omega) hv (fun x c=>hu x (eZ _ c)) (by rw [fY (a:=m) (by rw [ha];decide)] at he;exact he);refine⟨m :: z,by rw [fY (by rw [ha];decide)];exact h1,by rw [fK (hu m sM),h2],fun x c=>?_⟩;rcases List.mem_cons.1 c with rfl|c
      ·exact .inr sM
      ·rcases d x c with h|h
       ·exact .inl h
       ·exact .inr (eZ _ h)
     ·rw [fK hb,fK ha] at he;obtain⟨rfl,i⟩:=List.cons.inj he;obtain⟨z,h1,h2,d⟩:=ih v u (by simp at hn ⊢;omega) (fun x c=>hv x (eZ _ c)) (fun x c=>hu x (eZ _ c)) i;refine⟨l :: z,by rw [fK ha,h1],by rw [fK hb,h2],fun x c=>?_⟩;rcases List.mem_cons.1 c with rfl|c
      ·exact .inl sM
      ·rcases d x c with h|h
       ·exact .inl (eZ _ h)
       ·exact .inr (eZ _ h)
section
variable {s:Sys} {p:Aut} {A:Nat}
theorem cl_word {B:Nat->Nat->Prop} {w:List Nat}(hB:∀ q i,B q i->∃ v,(∀ l∈v,l<6∧(s.al.toNat.testBit l=true∨A.testBit l=true))∧v.filter (fun l=>A.testBit l)=w∧zbe (cho s) [0] v q∧i=zaW p 0 v) (h:Cl s p A B q i) :
  ∃ v,(∀ l∈v,l<6∧(s.al.toNat.testBit l=true∨A.testBit l=true))∧v.filter (fun l=>A.testBit l)=w∧zbe (cho s) [0] v q∧i=zaW p 0 v:=by
 induction h with
 |base h=>exact hB _ _ h
 |@hid q i l q' _ hl hq ih =>
  obtain⟨v,h1,h2,b,c⟩:=ih;obtain⟨d,f,g⟩:=hl;refine⟨v++[l],fun x a=>?_,by rw [iW,h2,fY (by rw [g];decide)];simp,.snoc b hq,by rw [zbB,c]⟩;rcases List.mem_append.1 a with a|a
  ·exact h1 x a
  ·obtain rfl:=List.mem_singleton.1 a;exact⟨d,.inl f⟩
theorem prR_word:∀ (r:List Nat),(∀ l∈r,l<6∧A.testBit l=true)->∀ q i,prR s p A r q i ->
  ∃ v,(∀ l∈v,l<6∧(s.al.toNat.testBit l=true∨A.testBit l=true))∧v.filter (fun l=>A.testBit l)=r.reverse∧zbe (cho s) [0] v q∧i=zaW p 0 v:=by
 intro r
 induction r with
 |nil =>
  intro _ q i h;refine cl_word (fun q i hb=>?_) h;obtain⟨rfl,rfl⟩:=hb;exact⟨[],sM,rfl,.nil sM,rfl⟩
 |cons l r ih =>
  intro hr q i h;refine cl_word (fun q i hb=>?_) h;obtain⟨k,g,h1,h2,rfl⟩:=hb;obtain⟨v,c,d,h5,f⟩:=ih (fun x a=>hr x (eZ _ a)) k g h1;obtain⟨j,b⟩:=hr l sM;refine⟨v++[l],fun x a=>?_,by rw [iW,d,fK b,List.reverse_cons];rfl,.snoc h5 h2,by rw [zbB,f]⟩;rcases List.mem_append.1 a with a|a
  ·exact c x a
  ·obtain rfl:=List.mem_singleton.1 a;exact⟨j,.inr b⟩
theorem word_prR:∀ (n:Nat) (v:List Nat),v.length=n->(∀ l∈v,l<6∧(s.al.toNat.testBit l=true∨A.testBit l=true))->∀ q,zbe (cho s) [0] v q->prR s p A (v.filter fun l=>A.testBit l).reverse q (zaW p 0 v):=by
 intro n
 induction n with
 |zero =>
  intro v hl _ q h;obtain rfl:=eJ hl;have c:=h.ah;simp only [List.mem_singleton] at c;exact .base ⟨c,rfl⟩
 |succ n ih =>
  intro v hl hv q h;rcases zY v with rfl|⟨w,l,rfl⟩
  ·simp at hl
  obtain⟨m,h1,h2⟩:=h.inv;have d:=ih w (by simpa using hl) (fun a ha=>hv a (by simp [ha])) m h1;obtain⟨f,i⟩:=hv l sM;rw [zbB,iW];cases hA:A.testBit l
  ·rw [fY (by rw [hA];decide),j2,gS];have b:s.al.toNat.testBit l=true:=by
    rcases i with h|h
    ·exact h
    ·rw [hA] at h;cases h
   have g:∀ (r:List Nat) {q' i'},prR s p A r m i'->q'∈cho s m l->prR s p A r q' (aGo p i' l):=by
    intro r q' i' hp hq;cases r with
    |nil=>exact .hid hp ⟨f,b,hA⟩ hq
    |cons a r=>exact .hid hp ⟨f,b,hA⟩ hq
   exact g _ d h2
  ·rw [fK hA,j2,List.reverse_append];exact .base ⟨m,_,d,h2,rfl⟩
theorem bad_iff {w:List Nat}(hw:∀ l∈w,l<6∧A.testBit l=true):Bad s p A w↔∃ v,(∀ l∈v,l<6∧(s.al.toNat.testBit l=true∨A.testBit l=true))∧v.filter (fun l=>A.testBit l)=w∧zgl s v∧zct p (zaW p 0 v)=false:=by
 constructor
 ·rintro ⟨q,i,h1,h2⟩;obtain⟨v,b,a,h5,c⟩:=prR_word w.reverse (fun l hl=>hw l (List.mem_reverse.1 hl)) q i h1;rw [List.reverse_reverse] at a;exact⟨v,b,a,⟨q,h5⟩,by rw [← c];exact h2⟩
 ·rintro ⟨v,h1,h2,⟨q,b⟩,a⟩;refine⟨q,_,?_,a⟩;have:=word_prR (p:=p) (A:=A) _ v rfl h1 q b;rw [h2] at this;exact this
end
theorem runs_take {v:List Nat}(h:zgl s v) (k:Nat):zgl s (v.take k):=by
 have a:∀ (n:Nat) (v u:List Nat),u.length=n->zgl s (v++u)->zgl s v:=by
  intro n
  induction n with
  |zero =>
   intro v u hl h;obtain rfl:=eJ hl;rwa [gS] at h
  |succ n ih =>
   intro v u hl h;rcases zY u with rfl|⟨w,l,rfl⟩
   ·simp at hl
   obtain⟨q,b⟩:=h;rw [← List.append_assoc] at b;obtain⟨m,h1,-⟩:=b.inv;exact ih v w (by simpa using hl) ⟨m,h1⟩
 refine a _ (v.take k) (v.drop k) rfl ?_;rwa [List.take_append_drop]
theorem take_filter (f:Nat->Bool):∀ (u:List Nat) (k:Nat),k<=(u.filter f).length->∃ j,(u.take j).filter f=(u.filter f).take k:=by
 intro u
 induction u with
 |nil=>intro k _;exact⟨0,sM⟩
 |cons a r ih =>
  intro k hk;cases ha:f a
  ·rw [fY (by rw [ha];decide)] at hk ⊢;obtain⟨j,hj⟩:=ih k hk;exact⟨j+1,by rw [List.take_succ_cons,fY (by rw [ha];decide)];exact hj⟩
  ·rw [fK ha] at hk ⊢;cases k with
   |zero=>exact⟨0,sM⟩
   |succ k =>
    obtain⟨j,hj⟩:=ih k (by simpa using hk);exact⟨j+1,by rw [List.take_succ_cons,fK ha,hj,List.take_succ_cons]⟩
theorem zkc {x:Sys}  {p:Aut} {L:Nat} {u:List Nat}(hL:L=(x.al.toNat|||p.al.toNat)&&&zB ts)(hpa:zy (x :: ts)=true)(hu:ziG (zB ts) u)(hr:∀ t∈ts,zgl t u)
  (hs:¬ SafeW x p L (u.filter fun l=>L.testBit l)):zcf (x :: ts) p=false:=by
 have b:∀ l,L.testBit l=true↔(x.al.toNat.testBit l=true∨p.al.toNat.testBit l=true)∧(zB ts).testBit l=true:=by
  intro l;rw [hL,iE,iM];simp
 obtain⟨k,n,g⟩:∃ k,k<=(u.filter fun l=>L.testBit l).length∧Bad x p L ((u.filter fun l=>L.testBit l).take k):=by
  apply Classical.byContradiction;intro hn;exact hs (fun k n hb=>hn ⟨k,n,hb⟩)
 obtain⟨j,hj⟩:=take_filter (fun l=>L.testBit l) u k n;rw [← hj] at g;have c:ziG (zB ts) (u.take j):=fun l hl=>hu l (List.mem_of_mem_take hl);have q:∀ t∈ts,zgl t (u.take j):=fun t d=>runs_take (hr t d) j;generalize u.take j=u at *;obtain⟨v,h1,h2,C,D⟩:=(bad_iff (fun l hl=>by
  obtain⟨h5,a⟩:=List.mem_filter.1 hl;exact⟨(c l h5).1,a⟩)).1 g
 obtain⟨z,r,E,s⟩:=shuffle (fun l=>x.al.toNat.testBit l || L.testBit l) (fun l=>(zB ts).testBit l) _ v u (dI _) (fun l hl=>by
   rcases (h1 l hl).2 with h|h<;>simp [h]) (fun l hl=>(c l hl).2) (by
  have y:v.filter (fun l=>(zB ts).testBit l)=v.filter (fun l=>L.testBit l):=by
   refine List.filter_congr fun l hl=>?_;rw [jC,b];refine⟨fun h=>?_,fun h=>h.2⟩;rcases (h1 l hl).2 with h5|h5
   ·exact⟨.inl h5,h⟩
   ·exact (b l).1 h5
  have B:u.filter (fun l=>x.al.toNat.testBit l || L.testBit l)=u.filter (fun l=>L.testBit l):=by
   refine List.filter_congr fun l hl=>?_;rw [jC,iC];refine⟨fun h=>?_,.inr⟩;rcases h with h|h
   ·exact (b l).2 ⟨.inl h,(c l hl).2⟩
   ·exact h
  rw [y,B,h2])
 have o:ziG (zB (x :: ts)) z:=by
  intro l hl;rw [zdj];rcases s l hl with h|h
  ·obtain⟨h5,a⟩:=h1 l h;refine⟨h5,?_⟩;rcases a with a|a
   ·exact⟨x,sM,a⟩
   ·obtain⟨t,d,m⟩:=(zdj ts l).1 ((b l).1 a).2;exact⟨t,eZ _ d,m⟩
  ·obtain⟨h5,a⟩:=c l h;obtain⟨t,d,m⟩:=(zdj ts l).1 a;exact⟨h5,t,eZ _ d,m⟩
 rw [fT];intro hkp;have i:=(zgs.1 hkp).2 z o (fun t d=>by
  rcases List.mem_cons.1 d with rfl|d
  ·refine (zdf (f:=fun l=>t.al.toNat.testBit l || L.testBit l) (fun l _ hb=>by simp [hb])).1 ?_;rw [r];exact C
  ·refine (zdf (f:=fun l=>(zB ts).testBit l) (fun l _ hb=>(zdj ts l).2 ⟨t,d,hb⟩)).1 ?_;rw [E];exact q t d)
 have e:zaW p 0 z=zaW p 0 v:=by
  rw [← r];refine (zcx fun l hl hb=>?_).symm;rcases s l hl with h|h
  ·rcases (h1 l h).2 with a|a<;>simp [a]
  ·have:=(b l).2 ⟨.inr hb,(c l h).2⟩;simp [this]
 rw [e,D] at i;cases i
theorem Frm.grownG {T:Nat->Prop}  {row:Option Nat}(h:Frm T w W)(hg:W.grownBy W' row)(hr:∀ k,row=some k->w.heap.size<=k):Frm T w W':=
 ⟨hg.os.trans h.os,hg.tape.trans h.tape,hg.output.trans h.output,eI h.size hg.size,fun k hk hn=>(hg.block k (eV hk h.size) (fun e=>by have:=hr k e.symm;omega)).trans (h.block k hk hn)⟩
structure Gr2 (w0 W:World) (G:Nat) (al st:Int) (v:Value) (es:List Edg):Prop where
 blk:Blk W G 38 #[al,st,v]
 own:W.ownsRow w0.heap.size 117 3 v es.length (zn es)
 fr:Frm (fun k=>k=G) w0 W
 hG:G<w0.heap.size
theorem Gr2.aw (h:Gr2 w0 W G al st v es)(hb:Ext W W'):Gr2 w0 W' G al st v es:=⟨h.blk.ext hb,zh h.own hb,h.fr.ext hb,h.hG⟩
theorem Gr2.push {e:Edg}(h:Gr2 w0 W G al st v es) (zkf:W'.ownsRow w0.heap.size 117 3 (.slice (some g) (es.length+1) cap) (es.length+1) (zn es++[.int .i64 e.fr,.int .i64 e.le,.int .i64 e.ta]))
  (hg:W.grownBy W' v.ownBlock) :
  Hid (W'.cell? ⟨G,2,none⟩=some v)∧W'.frozen? ⟨G,2,none⟩=false∧Gr2 w0 (W'.setCell ⟨G,2,none⟩ (.slice (some g) (es.length+1) cap)) G al st (.slice (some g) (es.length+1) cap) (es++[e]):=by
 have a:Blk W' G 38 #[.int .i64 al,.int .i64 st,v]:=(hg.block G h.blk.lt (fun e=>by have:=(h.own.lt G e.symm).1;have:=h.hG;omega)).trans h.blk;have f:=(zkf.lt g rfl).1;have c:=h.hG;have d:Frm (fun k=>k=G) w0 W':=h.fr.grownG hg (fun k hk=>(h.own.lt k hk).1);refine⟨a.cell 2,a.frozen 2,⟨by simpa using a.ab 2 _,?_,d.cell rfl _,c⟩⟩;have:=zf zkf (eB W' G 2 (.slice (some g) (es.length+1) cap)) (fun b hv hS=>by
  have:g=b:=by simpa [Value.ownBlock] using hv
  omega)
 rw [zcH];simpa [zn] using this
theorem spec_l2Rank {p:Nat} (hp:p<=16)(hk:k<=p) :
  Calls Tryz.prog 297 #[.int .i64 (2 ^ p - 1:Nat),k] w fun e w'=>e=.returned (.int .i64 (k:Nat))∧w=w':=by
 have f:2 ^ p - 1<65536:=by have:=e6 (show 1<=2 by omega) hp;have:(2:Nat) ^ 16=65536:=rfl;omega
 have c:=za (fun i (a:i<p)=>show (2 ^ p - 1).testBit i=true by rw [Nat.testBit_two_pow_sub_one];simpa using a);generalize 2 ^ p - 1=F at *
 go_enter Tryz.func297,Tryz.ntmps297
 go_wp2_with fail
 go_loop [5,6] (fun v iv=>∃ i:Nat,iv=.int .i64 i∧i<=k∧v=.int .i64 i) (fun _ iv=>k - (intOf iv).toNat)
 case atStart=>exact⟨0,rfl,eC _,rfl⟩
 case round =>
  obtain⟨i,rfl,a,rfl⟩:=hrel
  by_cases hlt:i<k
  ·have b:(i:Int)<(k:Int):=oM;have d:=za (c.out i oM);go_wp2_with (go_at_call 143;refine (zaq F i tM _ oM).mono ?_;rw [d.out];rintro e w' ⟨rfl,rfl⟩)
   go_round
   case rel=>exact⟨i+1,gM,oM,gM⟩
   case measure=>simp [intOf];omega
  ·obtain rfl:i=k:=oM;go_wp2_with fail
   go_ret;exact⟨rfl,rfl⟩
section
variable {w W:World} {lo hi n c m d m' d':Nat} {A B B':Option Addr} {s:Sys} {p:Aut}
theorem yY12a3 {P:Prop}(h:P:=by
 refine zb fun K hK=>?_;go_simp;refine hK.out _ _ ?_;refine zg ?_;go_wp2_with fail
 go_meet;obtain⟨w1,h1,h2⟩:=Hfin.out;exact⟨w1,rfl,h1,h2⟩
 ):P:=h
theorem spec_l2Keep {P:Nat}(h:zV w lo hi A n s)(hv:zk s=true)(hP:s.st=(P:Int))(hn:n<=1000000)(hhi:hi<=w.heap.size) :
  Calls Tryz.prog 269 #[.agg #[s.al,s.st,.slice A n c],.int .i64 (2 ^ P - 1:Nat)] w (RetSys w s):=by
 have ao:=zck hv;obtain⟨am,an,I,-⟩:=ao;have D:P<=16:=oM;have M:s.st.toNat=P:=oM;rw [M] at I;have Hf:=za I;have HS:=za (fun W (hW:Ext w W)=>h.ext hW);have Y:=za h.1;have ab:=za hP;have hF:2 ^ P - 1<65536:=by have:=e6 (show 1<=2 by omega) D;have:(2:Nat) ^ 16=65536:=rfl;omega
 have G:=za (fun k W (V:k<=P)=>spec_l2Rank (w:=W) D V);have HB:=za (fun i (hi:i<P)=>show (2 ^ P - 1).testBit i=true by rw [Nat.testBit_two_pow_sub_one];simpa using hi);rw [hP];generalize 2 ^ P - 1=F at *;clear h hv hP am an I M
 go_enter Tryz.func269,Tryz.ntmps269
 go_upto_region 1 with fail
 generalize U0:(w.alloc _).alloc _=l at *;obtain⟨t,b1,b2⟩:=Ext.x2_ U0;clear U0;have CB:=b1.cells;have B:=dE l;have aS:=b2.lt;have O:=za (fun W=>G.out P W (dI _));have j:=B.drew;have aq:=(dE l.drew).alloc (.cells #[(0:Int),(0:Int),()] 38);have bG:=eX l.drew 38 #[(0:Int),(0:Int),()]
 go_cut [5] (fun v wx=>∃ w1,v=.pointer (some l.heap.size)∧Ext l w1∧Gr2 w1 wx l.heap.size s.al (P:Nat) (.slice none 0 0) [])
 case first =>
  have zki:∃ w1,Ext l w1∧Gr2 w1 (l.alloc (.cells #[s.al,.int .i64 (P:Nat),()] 38)).drew l.heap.size s.al (P:Nat) (.slice none 0 0) []:=
   ⟨(l.alloc (.cells #[s.al,.int .i64 (P:Nat),()] 38)).drew,((dE _).alloc _).drew,eX l _ _,World.ownsRow_nil _ _ _ _,Frm.refl _ _,sM⟩
  have Hfin:=za zki;have cG:=bG.cell;have fG:=bG.frozen;rw [show l.drew.heap.size=l.heap.size from rfl] at cG fG;clear zki;refine uR (fun X=>Ext l X) [8] (zw.app [0,1,2,3,4] (zw.two 5 (zw.of [6,7,8]) 7 (zw.of [5,6,8]))) ?_;refine uQ ?_;refine zm (fun K hK=>?_) (fun K hK=>?_)
  ·go_simp;refine (O.out _).mono ?_;rintro e T ⟨rfl,rfl⟩;refine hK.out _ _ j ?_;refine pT ?_;refine uQ ?_;refine ze fun K hK=>?_;go_simp;refine hK.out _ _ (j.alloc _) ?_;refine pT ?_;exact yY12a3
  ·go_simp;refine hK.out _ _ (j.alloc _) ?_;refine pT ?_;refine ze fun K hK=>?_;go_simp;refine (O.out _).mono ?_;rintro e T ⟨rfl,rfl⟩;refine hK.out _ _ (j.alloc _) ?_;refine pT ?_;refine uQ ?_;exact yY12a3
 case rest =>
  obtain⟨w1,rfl,f,a⟩:=hcut;have ad:=za (fun W (hW:Ext w1 W)=>HS.out W (t.trans (f.trans hW)));have aa:∀ W,Frm (fun k=>k=l.heap.size) w1 W->∀ q,W.cell? ⟨w.heap.size,q,none⟩=#[Value.int .i64 s.al,.int .i64 (P:Nat),.slice A n c][q]?:=fun W hW=>((b1.ext f).frm hW oM).cell;have aC:=f.size;clear aq bG j CB B;go_wp2_with fail
  go_loopw [6] (fun iv wr=>∃ (k:Nat) (v:Value),iv=.int .i64 k∧k<=n∧Gr2 w1 wr l.heap.size s.al (P:Nat) v (s.edges.take k)) (fun iv _=>n - (intOf iv).toNat)
  case atStart=>exact⟨0,_,rfl,eC _,a⟩
  case round =>
   clear a;obtain⟨k,v,rfl,V,a⟩:=hrel;have k1:=aa wr a.fr
   by_cases hlt:k<n
   ·have aB:(k:Int)<(n:Int):=oM;have aj:=(ad.out w1 (dE _)).frm a.fr (fun k h1 h2 e=>oH t.size);obtain⟨g,o,x,rfl,aA,az,hx,c0,H,c2⟩:=aj.2.edge hlt;obtain⟨⟨f0,f1⟩,⟨l0,l1⟩,t0,t1⟩:=Hf.out x (dG hx.out);obtain⟨p,y⟩:∃ p:Nat,Hid (x.fr=p):=⟨x.fr.toNat,by unfold Hid;omega⟩;obtain⟨d,z⟩:∃ d:Nat,Hid (x.ta=d):=⟨x.ta.toNat,by unfold Hid;omega⟩;have Q:p<P:=oH y.out;have S:d<P:=oH z.out;rw [y.out] at c0;rw [z.out] at c2;have ah:=za (fun W=>G.out p W oM);have ai:=za (fun W=>G.out d W oM);have af:=za (HB.out p Q);have ag:=za (HB.out d S);have ar:=(dE wr).alloc (.cells #[p,x.le,d] 117);have be:=eX wr 117 #[p,x.le,d];have E:=a.aw ar;have aT:=za a.fr.size;have aU:=za (show zn (s.edges.take (k+1))=zn (s.edges.take k)++[.int .i64 p,.int .i64 x.le,.int .i64 d] by
     rw [eG,hx.out,e8,zcH,← y.out,← z.out];rfl)
    have r:=za (show (s.edges.take k).length=k by rw [List.length_take];have:=Y.out;omega);clear f0 f1 t0 t1 a;go_upto_region 6 with fail
    generalize hge:wr.heap.size=ge at *;have aG:=za hge;clear hge;generalize wr.alloc _=Z at *;have ce:=be.cell;go_wp2_with (first
     |(go_at_call 143;with_reducible refine (zaq F p tM _ oM).mono ?_;rw [af.out];rintro e T ⟨rfl,rfl⟩)
     |(go_at_call 143;with_reducible refine (zaq F d tM _ oM).mono ?_;rw [ag.out];rintro e T ⟨rfl,rfl⟩))
    have CE:=be.cells;have CG:=fun W (hW:Ext Z W)=>(E.blk.ext hW).cell;have B:=dE Z;clear ce;refine uR (fun X=>Ext Z X) [14,16] (zw.of [0,1,2,3,4,6,7,8,9,10,5,11,12,13,14,15,16]) ?_;refine uQ ?_;have C:=B.drew;refine ze fun K hK=>?_;go_simp;refine (ah.out _).mono ?_;rintro e T ⟨rfl,rfl⟩;refine hK.out _ _ C ?_;refine pT ?_;refine uQ ?_;refine ze fun K hK=>?_;go_simp;refine (ai.out _).mono ?_;rintro e T ⟨rfl,rfl⟩;refine hK.out _ _ C ?_;refine pT ?_;refine uQ ?_;refine ze fun K hK=>?_;go_simp;refine hK.out _ _ (C.alloc _) ?_;refine pT ?_;refine zb fun K hK=>?_;have m:=E.aw C;have J:=m.own;rw [r.out] at J;refine zaH w1 Z.drew _ _ _ rfl 117 _ 3 24 Tryz.underlying36 zaV rfl dM v k (zn (s.edges.take k)) _ _ rfl rfl m.fr.size J rfl (by simp [Value.oneCell']) lM oM ?_;intro g8 cap8 w8 hown8 hg8 hat8 hlt8;refine hK.out _ _ ?_;refine pT ?_;refine uQ ?_;obtain⟨p1,p2,p3⟩:=m.push (e:=⟨p,x.le,d⟩) (W':=w8) (by rw [r.out];exact hown8) hg8;have aV:=p1.out;have ak:=za (show s.edges.take k++[⟨p,x.le,d⟩]=s.edges.take (k+1) by
     rw [eG,hx.out,e8,← y.out,← z.out])
    rw [ak.out,r.out] at p3;refine zb fun K hK=>?_;go_simp;refine hK.out _ _ ?_;refine zg ?_;clear hown8 hg8 hat8 J p1 m;generalize w8.setCell ⟨l.heap.size,2,none⟩ (.slice (some g8) (k+1) cap8)=aY at *;go_wp2_with fail
    go_roundw
    case rel=>exact⟨k+1,_,gM,oM,p3⟩
    case measure=>simp [intOf];omega
   ·obtain rfl:k=n:=oM;rw [eF (oH Y.out)] at a;have u:=a.own;rw [← Y.out] at u;obtain⟨L,H,rfl⟩:=zi u;have U:=(b2.ext f).frm a.fr oM;have kz:=U.cell;have fz:=U.frozen;have kG:=a.blk.cell;have I:=zZ wr (w.heap.size+1) (.int .i64 s.al) (.int .i64 (P:Nat)) (.slice L k H);have cf:=(zaf U rfl (.int .i64 s.al) (.int .i64 (P:Nat)) (.slice L k H)).cell;have au:Ext w wr:=(t.trans f).frm a.fr (fun k V e=>oH t.size);have R:=za (show RetSys w s (.returned (.agg #[s.al,.int .i64 (P:Nat),.slice L k H])) (((wr.setCell ⟨w.heap.size+1,0,none⟩ s.al).setCell ⟨w.heap.size+1,1,none⟩ (.int .i64 (P:Nat))).setCell ⟨w.heap.size+1,2,none⟩ (.slice L k H)) from
     ⟨L,k,H,by rw [ab.out],⟨Y.out,zq (zf u I (fun b hv e=>zr u U dM hv e)) (t.trans f).size⟩,au.frm I (fun k V e=>oM)⟩)
    clear I u;go_wp2_with fail
    exact bodyPost_ret (v:=.agg #[s.al,.int .i64 (P:Nat),.slice L k H]) (by simp [results,Tryz.results269,go_sem,cf]) rfl R.out
end
end Go.Proofs.YtckbjnndaaoddaaGreatDoor
