/- The rows of -/
import Derived.Test.YtcfchopfijalpaaGreatDoorC07
import Derived.Test.YtcfchopfijalpaaGreatDoorC10
import Derived.Test.YtcfchopfijalpaaGreatDoorC01
import Derived.Test.YtcfchopfijalpaaGreatDoorC03
import Derived.Test.YtcfchopfijalpaaGreatDoorC04
import Derived.Test.YtcfchopfijalpaaGreatDoorC09
import Derived.Test.YtcfchopfijalpaaGreatDoorC02
import Derived.Test.YtcfchopfijalpaaGreatDoorC08
import Derived.Test.YtcfchopfijalpaaGreatDoorC06
set_option maxHeartbeats 2000000
set_option maxRecDepth 100000
namespace Go.Proofs.YtcfchopfijalpaaGreatDoor
open Go Go.RowKit
def nxC (n:Nat) (nx:Nat→Nat→Int):List Value:=ints ((List.range (n*6)).map fun i=>nx (i / 6) (i % 6))
theorem zbX (n:Nat) (nx:Nat→Nat→Int):(nxC n nx).length=n*6:=by simp [nxC,ints]
theorem zev {n q l:Nat} {nx:Nat→Nat→Int}(hq:q<n)(hl:l<6):(nxC n nx)[q*6+l]?=some (.int .i64 (nx q l)):=by
 unfold nxC ints
 rw [List.getElem?_map,List.getElem?_map,List.getElem?_range (by omega)]
 simp only [Option.map_some]
 rw [show (q*6+l) / 6=q by omega,show (q*6+l) % 6=l by omega]
theorem nxC_set {n q l:Nat} {nx:Nat→Nat→Int} {v:Int}(hq:q<n)(hl:l<6):(nxC n nx).set (q*6+l) (.int .i64 v)=nxC n (fun k' l'=>if k'=q∧l'=l then v else nx k' l'):=by
 refine List.ext_getElem? fun i=>?_
 rw [List.getElem?_set]
 rw [zbX]
 by_cases hi:i<n*6
 ·obtain⟨a,b,hb,rfl⟩:∃ a b,b<6∧i=a*6+b:=⟨i / 6,i % 6,by omega,by omega⟩
  rw [zev (show a<n by omega) hb,zev (show a<n by omega) hb]
  by_cases e:q*6+l=a*6+b
  ·have h1:a=q:=by omega
   have h2:b=l:=by omega
   rw [if_pos e,if_pos (by omega),if_pos ⟨h1,h2⟩]
  ·rw [if_neg e,if_neg (by omega)]
 ·rw [List.getElem?_eq_none (by rw [zbX];omega),List.getElem?_eq_none (by rw [zbX];omega)]
  by_cases e:q*6+l=i
  ·omega
  ·rw [if_neg e]
theorem nxC_snoc (n:Nat) (nx:Nat→Nat→Int):nxC (n+1) (fun k l=>if k=n then -1 else nx k l)=nxC n nx++[.int .i64 (-1),.int .i64 (-1),.int .i64 (-1),.int .i64 (-1),.int .i64 (-1),.int .i64 (-1)]:=by
 refine List.ext_getElem? fun i=>?_
 by_cases hi:i<n*6
 ·obtain⟨a,b,hb,rfl⟩:∃ a b,b<6∧i=a*6+b:=⟨i / 6,i % 6,by omega,by omega⟩
  rw [List.getElem?_append_left (by rw [zbX];exact hi),zev (show a<n+1 by omega) hb,zev (show a<n by omega) hb,if_neg (by omega)]
 ·rw [List.getElem?_append_right (by rw [zbX];omega),zbX]
  by_cases h2:i<(n+1)*6
  ·obtain⟨b,hb,rfl⟩:∃ b,b<6∧i=n*6+b:=⟨i - n*6,by omega,by omega⟩
   rw [zev (by omega) hb,if_pos rfl,Nat.add_sub_cancel_left]
   have:∀ b<6,([Value.int .i64 (-1),.int .i64 (-1),.int .i64 (-1),.int .i64 (-1),.int .i64 (-1),.int .i64 (-1)]:List Value)[b]?=some (.int .i64 (-1)):=by
    intro b hb
    match b,hb with
    |0,_=>rfl
    |1,_=>rfl
    |2,_=>rfl
    |3,_=>rfl
    |4,_=>rfl
    |5,_=>rfl
   rw [this b hb]
  ·rw [List.getElem?_eq_none (by rw [zbX];omega),List.getElem?_eq_none (by simp;omega)]
def stC (Ts:List (List Nat)):List Value:=Ts.flatMap zaQ
theorem stC_snoc (Ts:List (List Nat)) (T:List Nat):stC (Ts++[T])=stC Ts++zaQ T:=by simp [stC]
theorem zdW {T:List Nat} {i:Nat}(hi:i<T.length):(zaQ T)[i]?=some (.int .u16 (T.getD i 0:Nat)):=by
 unfold zaQ
 rw [List.getElem?_map,List.getElem?_eq_getElem hi,List.getD_eq_getElem?_getD,List.getElem?_eq_getElem hi]
 rfl
theorem stC_get {Ts:List (List Nat)}(h:∀ T∈Ts,T.length=12) {k i:Nat} {T:List Nat}(hT:Ts[k]?=some T)(hi:i<12):(stC Ts)[k*12+i]?=some (.int .u16 (T.getD i 0:Nat)):=by
 induction Ts generalizing k with
 |nil=>simp at hT
 |cons U r ih =>
  rw [show stC (U :: r)=zaQ U++stC r from rfl]
  have hU:=h U (by simp)
  cases k with
  |zero =>
   obtain rfl:U=T:=by simpa using hT
   rw [List.getElem?_append_left (by rw [zbu];omega),Nat.zero_mul,Nat.zero_add,zdW (by omega)]
  |succ k =>
   rw [List.getElem?_append_right (by rw [zbu,hU];omega),zbu,hU,show (k+1)*12+i - 12=k*12+i by omega]
   exact ih (fun V hV=>h V (by simp [hV])) (by simpa using hT)
theorem stC_drop {Ts:List (List Nat)}(h:∀ T∈Ts,T.length=12) {k:Nat} {T:List Nat}(hT:Ts[k]?=some T):∀ (i:Nat) (u:Value),(zaQ T)[i]?=some u→(stC Ts)[k*12+i]?=some u:=by
 intro i u hu
 have hl:=h T (List.mem_of_getElem? hT)
 have hi:i<T.length:=by have:=(List.getElem?_eq_some_iff.1 hu).1;rw [zbu] at this;exact this
 rw [stC_get h hT (by omega),← zdW hi,hu]
def unC (p:Aut) (Ts:List (List Nat)):List Bool:=Ts.map (badS p)
theorem unC_snoc (p:Aut) (Ts:List (List Nat)) (T:List Nat):unC p (Ts++[T])=unC p Ts++[badS p T]:=by simp [unC]
def NumI (Ts:List (List Nat)) (M:List Nat→Option Nat):Prop:=∀ (T:List Nat) (j:Nat),M T=some j→Ts[j]?=some T
theorem NumI.nil:NumI [] (fun _=>none):=fun T j h=>by cases h
theorem NumI.add {Ts:List (List Nat)} {M:List Nat→Option Nat}(h:NumI Ts M) (T:List Nat):NumI (Ts++[T]) (updG M T Ts.length):=by
 intro U j hj
 by_cases e:U=T
 ·subst e
  rw [updG_same] at hj
  obtain rfl:=Option.some.inj hj
  simp
 ·rw [updG_ne M _ e] at hj
  have:=h U j hj
  rw [List.getElem?_append_left (List.getElem?_eq_some_iff.1 this).1]
  exact this
structure Sfx where
 s:Sys
 p:Aut
 L:Nat
 A:Option Addr
 n:Nat
 c:Nat
 B:Option Addr
 m:Nat
 d:Nat
 B':Option Addr
 m':Nat
 d':Nat
 mv:Nat
 RA:Option Addr
 rc:Nat
 HA:Option Addr
 hc:Nat
 G:Nat
 mb:Nat
 b0:Nat
 lo:Nat
 w9:World
def hidS (s:Sys) (L:Nat):List Nat:=letters (diff s.al.toNat L) 6
def sfC (F:Sfx) (vs vn vu:Value):Array Value:=
 #[.int .i64 F.s.al,.int .i64 F.s.st,.slice F.A F.n F.c,.int .i64 F.p.al,.slice F.B F.m F.d,.slice F.B' F.m' F.d',.int .i64 F.L,.pointer (some ⟨F.mv,0,none⟩),.slice F.RA F.p.next.length F.rc,.slice F.HA (hidS F.s F.L).length F.hc,vs,.map (some F.mb),vn,vu]
abbrev Sfx.two (F:Sfx) (k:Nat):Prop:=k=F.G∨k=F.mb∨(F.lo≤k∧k<F.b0)
structure SfR (F:Sfx) (W:World):Prop where
 tab:Tab W
 mov:MovAt W F.mv F.s.edges
 rule:∃ lo hi,TbAt W lo hi F.RA F.p
 hid:∃ lo hi,Lst zbb W lo hi F.HA (hidS F.s F.L)
 acc:∃ lo hi,Reads W lo hi 1 F.B' F.m' (zP F.p.acc)
structure zhp (F:Sfx):Prop where
 hs:zn F.s=true
 hp:zk F.p=true
 hL:F.L<64
 red:∀ W,Frm F.two F.w9 W→SfR F W
 lob:F.lo≤F.b0
 b0G:F.b0≤F.G
 Gw:F.G<F.w9.heap.size
 b0m:F.b0≤F.mb
 mw:F.mb<F.w9.heap.size
 ne:F.mb≠F.G
structure zdX (F:Sfx) (Ts:List (List Nat)) (nx:Nat→Nat→Int) (k:Nat) (M:List Nat→Option Nat) (vs vn vu:Value) (W:World):Prop where
 frm:Frm F.two F.w9 W
 blk:Blk W F.G 245 (sfC F vs vn vu)
 sets:W.ownsRow F.w9.heap.size 249 12 vs Ts.length (stC Ts)
 next:W.ownsRow F.w9.heap.size 179 6 vn Ts.length (nxC Ts.length nx)
 uns:W.ownsRow F.w9.heap.size 4 1 vu Ts.length (zP (unC F.p Ts))
 map:zdw 249 litP domP W F.mb k M
 num:NumI Ts M
 le:k≤Ts.length
 ws:∀ T∈Ts,T.length=12
def sfS (F:Sfx) (vs vn vu:Value) (k:Nat):Prop:=(F.b0≤k∧k<F.w9.heap.size)∨vs.ownBlock=some k∨vn.ownBlock=some k∨vu.ownBlock=some k
section
variable {F:Sfx} {Ts:List (List Nat)} {nx:Nat→Nat→Int} {k:Nat} {M:List Nat→Option Nat} {vs vn vu:Value} {W W':World}
theorem zdX.red (h:zdX F Ts nx k M vs vn vu W)(hF:zhp F):SfR F W:=hF.red W h.frm
theorem zdX.frmT {T:Nat→Prop}(h:zdX F Ts nx k M vs vn vu W)(hF:zhp F)(hf:Frm T W W')(hT:∀ j,j<W.heap.size→T j→F.lo≤j∧¬ sfS F vs vn vu j):zdX F Ts nx k M vs vn vu W':=by
 have hw:=h.frm.size
 have far:∀ {b:Nat},b<W.heap.size→sfS F vs vn vu b→¬ T b:=fun hb hs ht=>(hT _ hb ht).2 hs
 refine⟨⟨hf.os.trans h.frm.os,hf.tape.trans h.frm.tape,hf.output.trans h.frm.output,Nat.le_trans hw hf.size,fun j hj hn=>?_⟩,h.blk.frm hf (far h.blk.lt (.inl ⟨hF.b0G,hF.Gw⟩)),zg h.sets hf (fun b hb=>far (h.sets.lt b hb).2 (.inr (.inl hb))),
  zg h.next hf (fun b hb=>far (h.next.lt b hb).2 (.inr (.inr (.inl hb)))),zg h.uns hf (fun b hb=>far (h.uns.lt b hb).2 (.inr (.inr (.inr hb)))),h.map.frm hf (far h.map.lt (.inl ⟨hF.b0m,hF.mw⟩)),h.num,h.le,h.ws⟩
 refine (hf.block j (by omega) (fun ht=>?_)).trans (h.frm.block j hj hn)
 obtain⟨h1,h2⟩:=hT j (by omega) ht
 rcases Nat.lt_or_ge j F.b0 with h3|h3
 ·exact hn (.inr (.inr ⟨h1,h3⟩))
 ·exact h2 (.inl ⟨h3,hj⟩)
theorem zdX.ext (h:zdX F Ts nx k M vs vn vu W)(hF:zhp F)(hx:Ext W W'):zdX F Ts nx k M vs vn vu W':=h.frmT hF hx (fun _ _ h=>h.elim)
theorem zdX.lt (h:zdX F Ts nx k M vs vn vu W) {j:Nat}(hj:sfS F vs vn vu j):j<W.heap.size:=by
 have hw:=h.frm.size
 rcases hj with hj|hj|hj|hj
 ·omega
 ·exact (h.sets.lt j hj).2
 ·exact (h.next.lt j hj).2
 ·exact (h.uns.lt j hj).2
theorem zdX.low0 (h:zdX F Ts nx k M vs vn vu W)(hF:zhp F) {j:Nat}(hj:sfS F vs vn vu j):F.b0≤j:=by
 have h1:=hF.b0G
 have h2:=hF.Gw
 rcases hj with hj|hj|hj|hj
 ·exact hj.1
 ·have:=(h.sets.lt j hj).1;omega
 ·have:=(h.next.lt j hj).1;omega
 ·have:=(h.uns.lt j hj).1;omega
theorem zdX.low (h:zdX F Ts nx k M vs vn vu W)(hF:zhp F) {j:Nat}(hj:sfS F vs vn vu j):F.lo≤j:=Nat.le_trans hF.lob (h.low0 hF hj)
end
structure Kq (S:Nat→Prop) (W W':World) (S':Nat→Prop):Prop where
 frm:Frm S W W'
 new:∀ q,S' q→S q∨W.heap.size≤q
theorem Kq.refl {S:Nat→Prop} {W:World}:Kq S W W S:=⟨Frm.refl _ _,fun _ h=>.inl h⟩
theorem Kq.trans {S S1 S2:Nat→Prop} {W W1 W2:World}(h:Kq S W W1 S1) (k:Kq S1 W1 W2 S2):Kq S W W2 S2:=by
 refine⟨⟨k.frm.os.trans h.frm.os,k.frm.tape.trans h.frm.tape,k.frm.output.trans h.frm.output,Nat.le_trans h.frm.size k.frm.size,fun i hi hn=>?_⟩,fun i hi=>?_⟩
 ·refine (k.frm.block i (Nat.lt_of_lt_of_le hi h.frm.size) (fun h1=>?_)).trans (h.frm.block i hi hn)
  rcases h.new i h1 with h2|h2
  ·exact hn h2
  ·omega
 ·rcases k.new i hi with h1|h1
  ·exact h.new i h1
  ·exact .inr (Nat.le_trans h.frm.size h1)
theorem Kq.ext {S S1:Nat→Prop} {W W1 W2:World}(h:Kq S W W1 S1)(hx:Ext W1 W2):Kq S W W2 S1:=⟨h.frm.ext hx,h.new⟩
theorem Kq.back {S S1:Nat→Prop} {W W1 W2:World}(hx:Ext W W1) (k:Kq S W1 W2 S1):Kq S W W2 S1:=
 ⟨⟨k.frm.os.trans hx.os,k.frm.tape.trans hx.tape,k.frm.output.trans hx.output,Nat.le_trans hx.size k.frm.size,fun i hi hn=>(k.frm.block i (Nat.lt_of_lt_of_le hi hx.size) hn).trans (hx.block i hi (fun h=>h))⟩,fun i hi=>by
  rcases k.new i hi with h|h
  ·exact .inl h
  ·exact .inr (Nat.le_trans hx.size h)⟩
structure zgX (F:Sfx) (Ts:List (List Nat)) (n:Nat) (nx:Nat→Nat→Int) (us:List Bool) (k:Nat) (M:List Nat→Option Nat) (vs vn vu:Value) (W:World):Prop where
 frm:Frm F.two F.w9 W
 blk:Blk W F.G 245 (sfC F vs vn vu)
 sets:W.ownsRow F.w9.heap.size 249 12 vs Ts.length (stC Ts)
 next:W.ownsRow F.w9.heap.size 179 6 vn n (nxC n nx)
 uns:W.ownsRow F.w9.heap.size 4 1 vu us.length (zP us)
 map:zdw 249 litP domP W F.mb k M
section
variable {F:Sfx} {Ts:List (List Nat)} {n:Nat} {nx:Nat→Nat→Int} {us:List Bool} {k:Nat} {M:List Nat→Option Nat} {vs vn vu:Value} {W W':World}
theorem zdX.p (h:zdX F Ts nx k M vs vn vu W):zgX F Ts Ts.length nx (unC F.p Ts) k M vs vn vu W:=
 ⟨h.frm,h.blk,h.sets,h.next,by rw [show (unC F.p Ts).length=Ts.length by simp [unC]];exact h.uns,h.map⟩
theorem zgX.m (h:zgX F Ts Ts.length nx (unC F.p Ts) k M vs vn vu W)(hn:NumI Ts M)(hk:k≤Ts.length)(hw:∀ T∈Ts,T.length=12):zdX F Ts nx k M vs vn vu W:=
 ⟨h.frm,h.blk,h.sets,h.next,by have:=h.uns;rwa [show (unC F.p Ts).length=Ts.length by simp [unC]] at this,h.map,hn,hk,hw⟩
theorem zgX.ext (h:zgX F Ts n nx us k M vs vn vu W)(hx:Ext W W'):zgX F Ts n nx us k M vs vn vu W':=
 ⟨⟨hx.os.trans h.frm.os,hx.tape.trans h.frm.tape,hx.output.trans h.frm.output,Nat.le_trans h.frm.size hx.size,fun j hj hn=>(hx.block j (Nat.lt_of_lt_of_le hj h.frm.size) (fun h=>h)).trans (h.frm.block j hj hn)⟩,h.blk.ext hx,zh h.sets hx,zh h.next hx,zh h.uns hx,h.map.ext hx⟩
theorem zgX.two_of {T:Nat→Prop}(h:zgX F Ts n nx us k M vs vn vu W)(hf:Frm T W W')(hT:∀ q,T q→F.two q∨F.w9.heap.size≤q):Frm F.two F.w9 W':=
 ⟨hf.os.trans h.frm.os,hf.tape.trans h.frm.tape,hf.output.trans h.frm.output,Nat.le_trans h.frm.size hf.size,fun j hj hn=>(hf.block j (Nat.lt_of_lt_of_le hj h.frm.size) (fun ht=>by
  rcases hT j ht with h1|h1
  ·exact hn h1
  ·omega)).trans (h.frm.block j hj hn)⟩
theorem zgX.mapSet {M':List Nat→Option Nat} {k':Nat}(h:zgX F Ts n nx us k M vs vn vu W)(hF:zhp F)(hmap:zdw 249 litP domP W' F.mb k' M')(hg:W.grownBy W' (some F.mb)) :
  zgX F Ts n nx us k' M' vs vn vu W'∧Kq (sfS F vs vn vu) W W' (sfS F vs vn vu):=by
 have hf:Frm (fun q=>q=F.mb) W W':=(Frm.of_grown hg).mono (fun q _ e=>(Option.some.inj e).symm)
 have hb:F.G≠F.mb:=fun e=>hF.ne e.symm
 refine⟨⟨h.two_of hf (fun q e=>.inl (.inr (.inl e))),h.blk.frm hf hb,zg h.sets hf (fun b hb e=>by subst e;exact h.map.farOwn h.sets hb),zg h.next hf (fun b hb e=>by subst e;exact h.map.farOwn h.next hb),zg h.uns hf (fun b hb e=>by subst e;exact h.map.farOwn h.uns hb),hmap⟩,
  hf.mono (fun q _ e=>.inl (by subst e;exact⟨hF.b0m,hF.mw⟩)),fun q hq=>.inl hq⟩
theorem sfC_10 (v:Value):(sfC F vs vn vu).setIfInBounds 10 v=sfC F v vn vu:=by simp [sfC]
theorem sfC_12 (v:Value):(sfC F vs vn vu).setIfInBounds 12 v=sfC F vs v vu:=by simp [sfC]
theorem sfC_13 (v:Value):(sfC F vs vn vu).setIfInBounds 13 v=sfC F vs vn v:=by simp [sfC]
theorem zei {g n cap q:Nat}(h:(Value.slice (some ⟨g,0,none⟩) n cap).ownBlock=some q):q=g:=by simpa [Value.ownBlock] using h.symm
theorem yC11a2 {P:Prop}(h:P:=by
 exact⟨hs.os.trans h5.os,hs.tape.trans h5.tape,hs.output.trans h5.output,Nat.le_trans h5.size hs.size,fun j hj hn=>(hs.block j (Nat.lt_of_lt_of_le hj h5.size) (fun e=>hn (.inl e))).trans (h5.block j hj hn)⟩
 ):P:=h
theorem zgX.pushS {U:List Nat} {g cap:Nat}(h:zgX F Ts n nx us k M vs vn vu W)(hF:zhp F) (ziJ:W'.ownsRow F.w9.heap.size 249 12 (.slice (some ⟨g,0,none⟩) (Ts.length+1) cap) (Ts.length+1) (stC Ts++zaQ U))(hg:W.grownBy W' vs.ownBlock)(hat:vs.ownBlock=some g∨g=W.heap.size+1) :
  Blk W' F.G 245 (sfC F vs vn vu)∧zgX F (Ts++[U]) n nx us k M (.slice (some ⟨g,0,none⟩) (Ts.length+1) cap) vn vu (W'.setCell ⟨F.G,10,none⟩ (.slice (some ⟨g,0,none⟩) (Ts.length+1) cap)) ∧
  Kq (sfS F vs vn vu) W (W'.setCell ⟨F.G,10,none⟩ (.slice (some ⟨g,0,none⟩) (Ts.length+1) cap)) (sfS F (.slice (some ⟨g,0,none⟩) (Ts.length+1) cap) vn vu):=by
 have hf:Frm (fun q=>vs.ownBlock=some q) W W':=Frm.of_grown hg
 have hB:=h.blk.frm hf (fun e=>zF h.sets h.blk (by decide) e rfl)
 have h1:W'.ownsRow F.w9.heap.size 249 12 (.slice (some ⟨g,0,none⟩) (Ts.length+1) cap) (Ts++[U]).length (stC (Ts++[U])):=by rw [List.length_append,List.length_singleton,stC_snoc];exact ziJ
 have h2:=zg h.next hf (fun b hb e=>zaX h.next h.sets (by decide) hb e)
 have h3:=zg h.uns hf (fun b hb e=>zaX h.uns h.sets (by decide) hb e)
 have h4:=h.map.frm hf (fun e=>h.map.farOwn h.sets e)
 have h5:=h.two_of hf (fun q e=>.inr (h.sets.lt q e).1)
 have hs:=Frm.setCell W' F.G 10 (.slice (some ⟨g,0,none⟩) (Ts.length+1) cap)
 refine⟨hB,⟨?_,by rw [← sfC_10 (vs:=vs)];exact hB.set_ 10 _,zg h1 hs (fun b hb e=>zF h1 hB (by decide) hb e),zg h2 hs (fun b hb e=>zF h2 hB (by decide) hb e),zg h3 hs (fun b hb e=>zF h3 hB (by decide) hb e),h4.frm hs hF.ne⟩,⟨?_,fun q hq=>?_⟩⟩
 ·exact yC11a2
 ·exact (hf.mono (fun q _ e=>.inr (.inl e))).trans (hs.mono (fun q _ e=>.inl (by subst e;exact⟨hF.b0G,hF.Gw⟩)))
 ·rcases hq with hq|hq|hq|hq
  ·exact .inl (.inl hq)
  ·obtain rfl:=zei hq
   rcases hat with e|e
   ·exact .inl (.inr (.inl e))
   ·exact .inr (by omega)
  ·exact .inl (.inr (.inr (.inl hq)))
  ·exact .inl (.inr (.inr (.inr hq)))
theorem zgX.pushN {g cap:Nat}(h:zgX F Ts n nx us k M vs vn vu W)(hF:zhp F) (ziJ:W'.ownsRow F.w9.heap.size 179 6 (.slice (some ⟨g,0,none⟩) (n+1) cap) (n+1) (nxC n nx++[.int .i64 (-1),.int .i64 (-1),.int .i64 (-1),.int .i64 (-1),.int .i64 (-1),.int .i64 (-1)]))(hg:W.grownBy W' vn.ownBlock)(hat:vn.ownBlock=some g∨g=W.heap.size+1) :
  Blk W' F.G 245 (sfC F vs vn vu)∧zgX F Ts (n+1) (fun k l=>if k=n then -1 else nx k l) us k M vs (.slice (some ⟨g,0,none⟩) (n+1) cap) vu (W'.setCell ⟨F.G,12,none⟩ (.slice (some ⟨g,0,none⟩) (n+1) cap)) ∧
  Kq (sfS F vs vn vu) W (W'.setCell ⟨F.G,12,none⟩ (.slice (some ⟨g,0,none⟩) (n+1) cap)) (sfS F vs (.slice (some ⟨g,0,none⟩) (n+1) cap) vu):=by
 have hf:Frm (fun q=>vn.ownBlock=some q) W W':=Frm.of_grown hg
 have hB:=h.blk.frm hf (fun e=>zF h.next h.blk (by decide) e rfl)
 have h2:W'.ownsRow F.w9.heap.size 179 6 (.slice (some ⟨g,0,none⟩) (n+1) cap) (n+1) (nxC (n+1) (fun k l=>if k=n then -1 else nx k l)):=by rw [nxC_snoc];exact ziJ
 have h1:=zg h.sets hf (fun b hb e=>zaX h.sets h.next (by decide) hb e)
 have h3:=zg h.uns hf (fun b hb e=>zaX h.uns h.next (by decide) hb e)
 have h4:=h.map.frm hf (fun e=>h.map.farOwn h.next e)
 have h5:=h.two_of hf (fun q e=>.inr (h.next.lt q e).1)
 have hs:=Frm.setCell W' F.G 12 (.slice (some ⟨g,0,none⟩) (n+1) cap)
 refine⟨hB,⟨?_,by rw [← sfC_12 (vn:=vn)];exact hB.set_ 12 _,zg h1 hs (fun b hb e=>zF h1 hB (by decide) hb e),zg h2 hs (fun b hb e=>zF h2 hB (by decide) hb e),zg h3 hs (fun b hb e=>zF h3 hB (by decide) hb e),h4.frm hs hF.ne⟩,⟨?_,fun q hq=>?_⟩⟩
 ·exact yC11a2
 ·exact (hf.mono (fun q _ e=>.inr (.inr (.inl e)))).trans (hs.mono (fun q _ e=>.inl (by subst e;exact⟨hF.b0G,hF.Gw⟩)))
 ·rcases hq with hq|hq|hq|hq
  ·exact .inl (.inl hq)
  ·exact .inl (.inr (.inl hq))
  ·obtain rfl:=zei hq
   rcases hat with e|e
   ·exact .inl (.inr (.inr (.inl e)))
   ·exact .inr (by omega)
  ·exact .inl (.inr (.inr (.inr hq)))
theorem zgX.pushU {x:Bool} {g cap:Nat}(h:zgX F Ts n nx us k M vs vn vu W)(hF:zhp F) (ziJ:W'.ownsRow F.w9.heap.size 4 1 (.slice (some ⟨g,0,none⟩) (us.length+1) cap) (us.length+1) (zP us++[.bool x]))(hg:W.grownBy W' vu.ownBlock)(hat:vu.ownBlock=some g∨g=W.heap.size+1) :
  Blk W' F.G 245 (sfC F vs vn vu)∧zgX F Ts n nx (us++[x]) k M vs vn (.slice (some ⟨g,0,none⟩) (us.length+1) cap) (W'.setCell ⟨F.G,13,none⟩ (.slice (some ⟨g,0,none⟩) (us.length+1) cap)) ∧
  Kq (sfS F vs vn vu) W (W'.setCell ⟨F.G,13,none⟩ (.slice (some ⟨g,0,none⟩) (us.length+1) cap)) (sfS F vs vn (.slice (some ⟨g,0,none⟩) (us.length+1) cap)):=by
 have hf:Frm (fun q=>vu.ownBlock=some q) W W':=Frm.of_grown hg
 have hB:=h.blk.frm hf (fun e=>zF h.uns h.blk (by decide) e rfl)
 have h3:W'.ownsRow F.w9.heap.size 4 1 (.slice (some ⟨g,0,none⟩) (us.length+1) cap) (us++[x]).length (zP (us++[x])):=by
  rw [List.length_append,List.length_singleton,zP,List.map_append]
  exact ziJ
 have h1:=zg h.sets hf (fun b hb e=>zaX h.sets h.uns (by decide) hb e)
 have h2:=zg h.next hf (fun b hb e=>zaX h.next h.uns (by decide) hb e)
 have h4:=h.map.frm hf (fun e=>h.map.farOwn h.uns e)
 have h5:=h.two_of hf (fun q e=>.inr (h.uns.lt q e).1)
 have hs:=Frm.setCell W' F.G 13 (.slice (some ⟨g,0,none⟩) (us.length+1) cap)
 refine⟨hB,⟨?_,by rw [← sfC_13 (vu:=vu)];exact hB.set_ 13 _,zg h1 hs (fun b hb e=>zF h1 hB (by decide) hb e),zg h2 hs (fun b hb e=>zF h2 hB (by decide) hb e),zg h3 hs (fun b hb e=>zF h3 hB (by decide) hb e),h4.frm hs hF.ne⟩,⟨?_,fun q hq=>?_⟩⟩
 ·exact yC11a2
 ·exact (hf.mono (fun q _ e=>.inr (.inr (.inr e)))).trans (hs.mono (fun q _ e=>.inl (by subst e;exact⟨hF.b0G,hF.Gw⟩)))
 ·rcases hq with hq|hq|hq|hq
  ·exact .inl (.inl hq)
  ·exact .inl (.inr (.inl hq))
  ·exact .inl (.inr (.inr (.inl hq)))
  ·obtain rfl:=zei hq
   rcases hat with e|e
   ·exact .inl (.inr (.inr (.inr e)))
   ·exact .inr (by omega)
end
theorem zcM {w:World} {b c n size:Nat} {e:TypeId} {v:Value} {xs:List Value}(h:w.ownsRow c e size v n xs)(hb:b≤c):w.ownsRow b e size v n xs:=by
 refine⟨h.1,?_⟩
 rcases h.2 with h1|⟨g,cap,cur,hv,hg,r⟩
 ·exact .inl h1
 ·exact .inr ⟨g,cap,cur,hv,Nat.le_trans hb hg,r⟩
def RetTO (J:zbv) (o:Option (List ByteArray × List ByteArray)) (B:Nat) (S:Nat→Prop) (W:World) (e:Ending) (W':World):Prop:=
 ∃ S',Kp J B S W W' S'∧((o=none∧e=.returned (.tuple #[.agg #[.slice none 0 0,.slice none 0 0],.bool false])) ∨
  ∃ (rs cs:List ByteArray) (R C:Option Addr) (cr cc:Nat),o=some (rs,cs)∧e=.returned (.tuple #[.agg #[.slice R rs.length cr,.slice C cs.length cc],.bool true])∧zfW W' S' W.heap.size R rs.length cr C cs.length cc rs cs)
structure TabB (W:World) (S:Nat→Prop) (base g:Nat) (R:Option Addr) (cr:Nat) (C:Option Addr) (cc:Nat) (rs cs:List ByteArray):Prop where
 blk:Blk W g 101 #[.slice R rs.length cr,.slice C cs.length cc]
 tab:zfW W S base R rs.length cr C cs.length cc rs cs
 far:¬ S g
 dis:∀ q,(Value.slice R rs.length cr).ownBlock=some q→(Value.slice C cs.length cc).ownBlock≠some q
section
variable {J:zbv} {B b0 L base nr cr nc cc kn:Nat} {S S':Nat→Prop} {W W':World} {R C:Option Addr} {rows cols:List ByteArray} {f:ByteArray→Bool} {rc:Value}
theorem TabB.kp {g:Nat} {rs cs:List ByteArray}(h:TabB W S base g R cr C cc rs cs) (k:Kp J B S W W' S'):TabB W' S' base g R cr C cc rs cs:=⟨(k.blk h.blk h.far).1,h.tab.kp k,(k.blk h.blk h.far).2,h.dis⟩
theorem zem {w1 W5:World} {b2 b5 g:Nat} {R6 C6:Option Addr} {cr6 cc6:Nat}(hS:Hid (∀ q,w1.heap.size≤q→¬ S q))(hlen:rows.length=nr∧cols.length=nc)(hb:Blk W5 g 101 #[.slice none 0 0,.slice none 0 0])
  (h2:W5.ownsRow b2 9 1 (.slice R6 nr cr6) nr (zL rows)) (h5:W5.ownsRow b5 9 1 (.slice C6 nc cc6) nc (zL cols)) (hdis:∀ q,(Value.slice R6 nr cr6).ownBlock=some q→(Value.slice C6 nc cc6).ownBlock≠some q) (hx:Ext w1 W5) (hg:w1.heap.size≤g) (hb2:w1.heap.size≤b2) (hb5:w1.heap.size≤b5) :
  Ext w1 ((W5.setCell ⟨g,0,none⟩ (.slice R6 nr cr6)).setCell ⟨g,1,none⟩ (.slice C6 nc cc6))∧TabB ((W5.setCell ⟨g,0,none⟩ (.slice R6 nr cr6)).setCell ⟨g,1,none⟩ (.slice C6 nc cc6)) S w1.heap.size g R6 cr6 C6 cc6 rows cols:=by
 obtain⟨rfl,rfl⟩:=hlen
 have hf:=(Frm.setCell W5 g 0 (.slice R6 rows.length cr6)).trans (Frm.setCell _ g 1 (.slice C6 cols.length cc6))
 have a2:=zcM h2 hb2
 have a5:=zcM h5 hb5
 refine⟨hx.frm hf (fun q hq e=>by have e':q=g:=e;omega),⟨by simpa using (hb.set_ 0 (.slice R6 rows.length cr6)).set_ 1 (.slice C6 cols.length cc6),⟨⟨zg a2 hf (fun b hb' e=>zF a2 hb (by decide) hb' e),fun b hb'=>hS.out b (a2.lt b hb').1⟩,⟨zg a5 hf (fun b hb' e=>zF a5 hb (by decide) hb' e),fun b hb'=>hS.out b (a5.lt b hb').1⟩⟩,hS.out g hg,hdis⟩⟩
theorem zhJ (l:List ByteArray) (x:ByteArray):zL (l++[x])=zL l++[.string x]:=by simp [zL]
theorem TabB.push {g g8 cap8:Nat} {x:ByteArray} {rs cs:List ByteArray}(h:TabB W S base g R cr C cc rs cs)(hfr:∀ q,W.heap.size≤q→¬ S q) (ziJ:W'.ownsRow base 9 1 (.slice (some ⟨g8,0,none⟩) (rs.length+1) cap8) (rs.length+1) (zL rs++[.string x]))
  (hg:W.grownBy W' (Value.slice R rs.length cr).ownBlock) (hat:(Value.slice R rs.length cr).ownBlock=some g8∨g8=W.heap.size+1) :
  Blk W' g 101 #[.slice R rs.length cr,.slice C cs.length cc]∧TabB (W'.setCell ⟨g,0,none⟩ (.slice (some ⟨g8,0,none⟩) (rs.length+1) cap8)) S base g (some ⟨g8,0,none⟩) cap8 C cc (rs++[x]) cs:=by
 have hf:Frm (fun q=>(Value.slice R rs.length cr).ownBlock=some q) W W':=Frm.of_grown hg
 have hB:=h.blk.frm hf (fun e=>zF h.tab.r.own h.blk (by decide) e rfl)
 have hC:=zg h.tab.c.own hf (fun b hb e=>h.dis b e hb)
 have hs:=Frm.setCell W' g 0 (.slice (some ⟨g8,0,none⟩) (rs.length+1) cap8)
 have hl:(rs++[x]).length=rs.length+1:=by simp
 have h8:¬ S g8:=by
  rcases hat with e|e
  ·exact h.tab.r.far g8 e
  ·exact hfr g8 (by omega)
 refine⟨hB,⟨by rw [hl];simpa using hB.set_ 0 (.slice (some ⟨g8,0,none⟩) (rs.length+1) cap8),⟨⟨?_,fun b hb=>by obtain rfl:=zei hb;exact h8⟩,⟨zg hC hs (fun b hb e=>zF hC hB (by decide) hb e),h.tab.c.far⟩⟩,h.far,fun q hq=>?_⟩⟩
 ·rw [hl,zhJ]
  exact zg ziJ hs (fun b hb e=>zF ziJ hB (by decide) hb e)
 ·obtain rfl:=zei hq
  rcases hat with e|e
  ·exact h.dis _ e
  ·intro hc
   have:=(h.tab.c.own.lt _ hc).2
   omega
theorem zeN {w5:World} {S5:Nat→Prop} {base Z:Nat} {R1 C1:Option Addr} {cr1 cc1:Nat} {rs cs:List ByteArray} {u0 u1:Value}(hJ:zbv.Ok b0 J)(hk:Kp J B S W w5 S5)(hT:zfW w5 S5 base R1 rs.length cr1 C1 cs.length cc1 rs cs)(hb:Blk w5 Z 101 #[u0,u1])(hZ:¬ S5 Z)(hWZ:W.heap.size≤Z)(hbZ:b0≤Z)(hWb:W.heap.size≤base) :
  Blk ((w5.setCell ⟨Z,0,none⟩ (.slice R1 rs.length cr1)).setCell ⟨Z,1,none⟩ (.slice C1 cs.length cc1)) Z 101 #[.slice R1 rs.length cr1,.slice C1 cs.length cc1] ∧
  Kp J B S W ((w5.setCell ⟨Z,0,none⟩ (.slice R1 rs.length cr1)).setCell ⟨Z,1,none⟩ (.slice C1 cs.length cc1)) S5∧zfW ((w5.setCell ⟨Z,0,none⟩ (.slice R1 rs.length cr1)).setCell ⟨Z,1,none⟩ (.slice C1 cs.length cc1)) S5 W.heap.size R1 rs.length cr1 C1 cs.length cc1 rs cs:=by
 have hf:=(Frm.setCell w5 Z 0 (.slice R1 rs.length cr1)).trans (Frm.setCell _ Z 1 (.slice C1 cs.length cc1))
 refine⟨by simpa using (hb.set_ 0 (.slice R1 rs.length cr1)).set_ 1 (.slice C1 cs.length cc1),hk.own hJ hf (fun q _ e=>by have e':q=Z:=e;rw [e'];exact⟨hWZ,hbZ,hZ⟩),
  ⟨⟨zcM (zg hT.r.own hf (fun b hb' e=>zF hT.r.own hb (by decide) hb' e)) hWb,hT.r.far⟩,⟨zcM (zg hT.c.own hf (fun b hb' e=>zF hT.c.own hb (by decide) hb' e)) hWb,hT.c.far⟩⟩⟩
theorem yC11a1 {P:Prop}(h:P:=by
 refine hK.out _ _ hxw5 ?_
 refine pT ?_
 refine uQ ?_
 have c7:=hb7.cell
 have f7:=hb7.frozen
 refine zb fun K hK=>?_
 go_simp
 refine hK.out _ _ ?_
 refine pT ?_
 refine zf ?_
 have ziM:=zem (S:=S) hwS1 hlr.out hb7 ho2 ho5 hdis hxw5 hg7 (by omega) (by omega)
 go_wp2_with fail
 go_meet
 exact⟨g7,R6,C6,cr6,cc6,rfl,hg7,ziM.1,ziM.2⟩
 ):P:=h
theorem zfa (hO:zgg b0 L f J kn rc)(hj:J B W S)(hB:B+21840<10000000)(hT:zfW W S base R nr cr C nc cc rows cols)(hI:zbz L f rows cols)(hb0:b0≤W.heap.size)(hL:L<64) :
  Calls Tryz.prog 156 #[orcV L kn rc,.agg #[.slice R nr cr,.slice C nc cc]] W (RetTO J ((zZ L f cols (12 - rows.length) rows).map fun r=>(r,cols)) (B+21840) S W):=by
 have HO:=za hO
 have HI:=za hI
 have hlr:=za hT.lens
 have hr12:=za hI.r12
 have hc20:=za hI.c20
 have hx1:Ext W (((W.alloc (.cells #[.int .i64 (L:Int),.func (.func kn) #[rc] #[]] 115)).alloc (.cells #[.slice R nr cr,.slice C nc cc] 101)).alloc (.cells #[.slice none 0 0,.slice none 0 0] 101)):=(((Ext.refl _).alloc _).alloc _).alloc _
 obtain⟨b2,b3,b4⟩:=zK (Ext.refl (((W.alloc (.cells #[.int .i64 (L:Int),.func (.func kn) #[rc] #[]] 115)).alloc (.cells #[.slice R nr cr,.slice C nc cc] 101)).alloc (.cells #[.slice none 0 0,.slice none 0 0] 101)))
 have hS1:=za (fun (q:Nat) (hq:W.heap.size≤q)=>zbv.fresh hO.ok hj hq)
 have hj1:=hO.ok.keep hj hx1 (fun _ _ h=>h.elim)
 have hTw:=za (hT.ext hx1)
 have hs2:W.heap.size<(((W.alloc (.cells #[.int .i64 (L:Int),.func (.func kn) #[rc] #[]] 115)).alloc (.cells #[.slice R nr cr,.slice C nc cc] 101)).alloc (.cells #[.slice none 0 0,.slice none 0 0] 101)).heap.size∧W.heap.size+1+1<(((W.alloc (.cells #[.int .i64 (L:Int),.func (.func kn) #[rc] #[]] 115)).alloc (.cells #[.slice R nr cr,.slice C nc cc] 101)).alloc (.cells #[.slice none 0 0,.slice none 0 0] 101)).heap.size:=by simp;omega
 clear hO hI hT
 go_enter Tryz.func156,Tryz.ntmps156
 go_upto_region 1 with fail
 generalize ((W.alloc (.cells #[.int .i64 (L:Int),.func (.func kn) #[rc] #[]] 115)).alloc (.cells #[.slice R nr cr,.slice C nc cc] 101)).alloc (.cells #[.slice none 0 0,.slice none 0 0] 101)=w1 at *
 have hwS1:=za (fun (q:Nat) (hq:w1.heap.size≤q)=>zbv.fresh HO.out.ok hj1 hq)
 go_cut [6] (fun v6 wx=>∃ (g:Nat) (R6 C6:Option Addr) (cr6 cc6:Nat),v6=.pointer (some ⟨g,0,none⟩)∧w1.heap.size≤g∧Ext w1 wx∧TabB wx S w1.heap.size g R6 cr6 C6 cc6 rows cols)
 case first =>
  have CT:∀ X,Ext w1 X→∀ q,X.cell? ⟨W.heap.size+1,q,none⟩=#[Value.slice R nr cr,.slice C nc cc][q]?:=fun X hX=>(b3.ext hX).cell
  have hww:=Ext.refl w1
  have hnr:nr≤12:=by have:=hlr.out.1;have:=hr12.out;omega
  have hnc:nc≤20:=by have:=hlr.out.2;have:=hc20.out;omega
  refine uR (fun X=>Ext w1 X) [5,8] (zu.app [0,1,3,4] (zu.two 2 (zu.two 5 (zu.of [6,7,8]) 7 (zu.of [5,6,8])) 7 (zu.of [2,5,6,8]))) ?_
  refine uQ ?_
  have hxwd:=hww.drew
  generalize w1.drew=wd at *
  refine zm (fun K hK=>?_) (fun K hK=>?_)
  ·go_simp
   refine (zbh (Reads.of_own (zh hTw.out.r.own hxwd)) (by omega)).mono ?_
   rintro e w2 ⟨v2,rfl,ho2,hy2⟩
   have hxw2:=hxwd.trans hy2
   obtain⟨R6,cr6,rfl⟩:=zi ho2
   have hs2:=hxwd.size
   refine hK.out _ _ hxw2 ?_
   refine pT ?_
   refine uQ ?_
   refine zm (fun K hK=>?_) (fun K hK=>?_)
   ·go_simp
    refine (zbh (Reads.of_own (zh hTw.out.c.own hxw2)) (by omega)).mono ?_
    rintro e w5 ⟨v5,rfl,ho5,hy5⟩
    have hxw5:=hxw2.trans hy5
    obtain⟨C6,cc6,rfl⟩:=zi ho5
    have hs5:=hxw2.size
    have hdis:∀ q,(Value.slice R6 nr cr6).ownBlock=some q→(Value.slice C6 nc cc6).ownBlock≠some q:=fun q h1 h2=>by have:=(ho2.lt q h1).2;have:=(ho5.lt q h2).1;omega
    replace ho2:=zh ho2 hy5
    refine hK.out _ _ hxw5 ?_
    refine pT ?_
    refine uQ ?_
    refine ze fun K hK=>?_;go_simp
    have hb7:=Blk.new w5 101 #[.slice none 0 0,.slice none 0 0]
    have hy7:Ext w5 (w5.alloc (.cells #[.slice none 0 0,.slice none 0 0] 101)):=(Ext.refl _).alloc _
    have hxw7:=hxw5.trans hy7
    have hg7:=hxw5.size
    replace ho2:=zh ho2 hy7
    replace ho5:=zh ho5 hy7
    refine hK.out _ _ hxw7 ?_
    obtain⟨g7,hg7e⟩:∃ g,Hid (g=w5.heap.size):=⟨_,za rfl⟩
    rw [← hg7e.out] at hb7 hg7 ⊢
    generalize w5.alloc (.cells #[.slice none 0 0,.slice none 0 0] 101)=w7 at *
    refine pT ?_
    refine uQ ?_
    have c7:=hb7.cell
    have f7:=hb7.frozen
    refine zb fun K hK=>?_
    go_simp
    refine hK.out _ _ ?_
    refine pT ?_
    refine zf ?_
    have ziM:=zem (S:=S) hwS1 hlr.out hb7 ho2 ho5 hdis hxw7 hg7 (by omega) (by omega)
    go_wp2_with fail
    go_meet
    exact⟨g7,R6,C6,cr6,cc6,rfl,hg7,ziM.1,ziM.2⟩
   ·go_simp
    have hb7:=Blk.new w2 101 #[.slice none 0 0,.slice none 0 0]
    have hy7:Ext w2 (w2.alloc (.cells #[.slice none 0 0,.slice none 0 0] 101)):=(Ext.refl _).alloc _
    have hxw7:=hxw2.trans hy7
    have hg7:=hxw2.size
    replace ho2:=zh ho2 hy7
    refine hK.out _ _ hxw7 ?_
    obtain⟨g7,hg7e⟩:∃ g,Hid (g=w2.heap.size):=⟨_,za rfl⟩
    rw [← hg7e.out] at hb7 hg7 ⊢
    generalize w2.alloc (.cells #[.slice none 0 0,.slice none 0 0] 101)=w7 at *
    refine pT ?_
    refine uQ ?_
    refine ze fun K hK=>?_;go_simp
    refine (zbh (Reads.of_own (zh hTw.out.c.own hxw7)) (by omega)).mono ?_
    rintro e w5 ⟨v5,rfl,ho5,hy5⟩
    have hxw5:=hxw7.trans hy5
    obtain⟨C6,cc6,rfl⟩:=zi ho5
    have hs5:=hxw7.size
    have hdis:∀ q,(Value.slice R6 nr cr6).ownBlock=some q→(Value.slice C6 nc cc6).ownBlock≠some q:=fun q h1 h2=>by have:=(ho2.lt q h1).2;have:=(ho5.lt q h2).1;omega
    replace ho2:=zh ho2 hy5
    replace hb7:=hb7.ext hy5
    exact yC11a1
  ·go_simp
   have hb7:=Blk.new wd 101 #[.slice none 0 0,.slice none 0 0]
   have hy7:Ext wd (wd.alloc (.cells #[.slice none 0 0,.slice none 0 0] 101)):=(Ext.refl _).alloc _
   have hxw7:=hxwd.trans hy7
   have hg7:=hxwd.size
   refine hK.out _ _ hxw7 ?_
   obtain⟨g7,hg7e⟩:∃ g,Hid (g=wd.heap.size):=⟨_,za rfl⟩
   rw [← hg7e.out] at hb7 hg7 ⊢
   generalize wd.alloc (.cells #[.slice none 0 0,.slice none 0 0] 101)=w7 at *
   refine pT ?_
   refine uQ ?_
   refine ze fun K hK=>?_;go_simp
   refine (zbh (Reads.of_own (zh hTw.out.r.own hxw7)) (by omega)).mono ?_
   rintro e w2 ⟨v2,rfl,ho2,hy2⟩
   have hxw2:=hxw7.trans hy2
   obtain⟨R6,cr6,rfl⟩:=zi ho2
   have hs2:=hxw7.size
   replace hb7:=hb7.ext hy2
   refine hK.out _ _ hxw2 ?_
   refine pT ?_
   refine uQ ?_
   refine ze fun K hK=>?_;go_simp
   refine (zbh (Reads.of_own (zh hTw.out.c.own hxw2)) (by omega)).mono ?_
   rintro e w5 ⟨v5,rfl,ho5,hy5⟩
   have hxw5:=hxw2.trans hy5
   obtain⟨C6,cc6,rfl⟩:=zi ho5
   have hs5:=hxw2.size
   have hdis:∀ q,(Value.slice R6 nr cr6).ownBlock=some q→(Value.slice C6 nc cc6).ownBlock≠some q:=fun q h1 h2=>by have:=(ho2.lt q h1).2;have:=(ho5.lt q h2).1;omega
   replace hb7:=hb7.ext hy5
   replace ho2:=zh ho2 hy5
   exact yC11a1
 case rest =>
  obtain⟨g,R6,C6,cr6,cc6,rfl,hgw,hxc,hTb⟩:=hcut
  have hk0:=za ((Kp.refl hj1).ext HO.out.ok hxc)
  have B2:=za b2
  have B4:=za b4
  obtain⟨tg,htg⟩:∃ tg,Hid (zZ L f cols (12 - rows.length) rows=tg):=⟨_,za rfl⟩
  have hTB0:=za hTb
  have hI0:=za (show zbz L f rows cols∧zZ L f cols (12 - rows.length) rows=tg∧rows.length≤12 from ⟨HI.out,htg.out,hr12.out⟩)
  have hk0':=za (hk0.out.more HO.out.ok (show B≤B+1680*rows.length by omega))
  clear b2 b3 b4 hxc hTb hj1 hk0
  have hncl:=za hlr.out.2
  go_wp2_with fail
  go_loopw [7,8] (fun _ _ wr=>∃ (rs:List ByteArray) (S1:Nat→Prop) (R1 C1:Option Addr) (cr1 cc1:Nat),Hid (Kp J (B+1680*rs.length) S w1 wr S1)∧Hid (TabB wr S1 w1.heap.size g R1 cr1 C1 cc1 rs cols)∧Hid (zbz L f rs cols∧zZ L f cols (12 - rs.length) rs=tg∧rs.length≤12)) (fun _ _ wr=>12 - lenAt0 wr g)
  case atStart=>exact⟨rows,S,R6,C6,cr6,cc6,hk0',hTB0,hI0⟩
  case round =>
   clear hk0' hTB0 hI0
   obtain⟨rs,S1,R1,C1,cr1,cc1,hkp,hTb,hI⟩:=hrel
   have hrs12:=hI.out.2.2
   have hfo:=za (or_firstOpen HO.out hkp.out.j (by omega) hTb.out.tab hI.out.1 (by have:=hkp.out.size;omega) hL)
   have k2:=(hkp.out.blk B2.out (hS1.out _ (Nat.le_refl _))).1.cell
   have k6:=hTb.out.blk.cell
   have hln:=za (zdU hTb.out.blk)
   cases hop:zav L f rs cols with
   |none =>
    have Hop:=za hop
    have htn:=za (show tg=some rs by rw [← hI.out.2.1,zbT _ hop])
    rw [hop] at hfo
    clear hop
    go_upto_region 3 with (go_at_call 232;refine hfo.out.mono ?_;rintro e w5 ⟨S5,rfl,hk5⟩)
    have hTb5:=za (hTb.out.kp hk5)
    have hk15:=za (((hkp.out.trans hk5).more HO.out.ok (show B+1680*rs.length+1680≤B+21840 by omega)).back hx1)
    have hb45:=(hkp.out.trans hk5).blk B4.out (hS1.out _ (by omega))
    have k6:=hTb5.out.blk.cell
    have k4:=hb45.1.cell
    have f4:=hb45.1.frozen
    clear k2 hfo hk5
    go_wp2_with fail
    have ziM:=zeN HO.out.ok hk15.out hTb5.out.tab hb45.1 hb45.2 (by omega) (by omega) (by omega)
    have cf:=ziM.1.cell
    have Hfin:=za ziM.2
    clear ziM k6 k4 f4 hb45 hTb5 hk15
    generalize (w5.setCell ⟨W.heap.size+1+1,0,none⟩ (.slice R1 rs.length cr1)).setCell ⟨W.heap.size+1+1,1,none⟩ (.slice C1 cols.length cc1)=w9 at *
    exact bodyPost_ret (v:=.tuple #[.agg #[.slice R1 rs.length cr1,.slice C1 cols.length cc1],.bool true]) (by simp [results,Tryz.results156,go_sem,cf]) rfl ⟨S5,Hfin.out.1,.inr ⟨rs,cols,R1,C1,cr1,cc1,by rw [htg.out,htn.out];rfl,rfl,Hfin.out.2⟩⟩
   |some x =>
    have Hop:=za hop
    by_cases hfull:rs.length=12
    ·have htn:=za (show tg=none by rw [← hI.out.2.1,hfull];exact zdp hop)
     have hfe:((rs.length:Int)==12)=true:=by rw [hfull];rfl
     rw [hop] at hfo
     clear hop hfull
     go_upto_region 3 with (go_at_call 232;refine hfo.out.mono ?_;rintro e w5 ⟨S5,rfl,hk5⟩)
     have hTb5:=za (hTb.out.kp hk5)
     have hk15:=za (((hkp.out.trans hk5).more HO.out.ok (show B+1680*rs.length+1680≤B+21840 by omega)).back hx1)
     have hb45:=(hkp.out.trans hk5).blk B4.out (hS1.out _ (by omega))
     have k6:=hTb5.out.blk.cell
     have k4:=hb45.1.cell
     have f4:=hb45.1.frozen
     clear k2 hfo hk5
     go_wp2_with fail
     have hf:=(Frm.setCell w5 (W.heap.size+1+1) 0 (.slice none 0 0)).trans (Frm.setCell _ (W.heap.size+1+1) 1 (.slice none 0 0))
     have hkf:=za (hk15.out.own HO.out.ok hf (fun q _ e=>by have e':q=W.heap.size+1+1:=e;rw [e'];exact⟨by omega,by omega,hb45.2⟩))
     have cf:∀ i,((w5.setCell ⟨W.heap.size+1+1,0,none⟩ (.slice none 0 0)).setCell ⟨W.heap.size+1+1,1,none⟩ (.slice none 0 0)).cell? ⟨W.heap.size+1+1,i,none⟩=#[Value.slice none 0 0,.slice none 0 0][i]?:=fun i=>by
      have:=((hb45.1.set_ 0 (.slice none 0 0)).set_ 1 (.slice none 0 0)).cell i
      simpa using this
     clear k6 k4 f4 hb45 hTb5 hk15 hf
     generalize (w5.setCell ⟨W.heap.size+1+1,0,none⟩ (.slice none 0 0)).setCell ⟨W.heap.size+1+1,1,none⟩ (.slice none 0 0)=w9 at *
     exact bodyPost_ret (v:=.tuple #[.agg #[.slice none 0 0,.slice none 0 0],.bool false]) (by simp [results,Tryz.results156,go_sem,cf]) rfl ⟨S5,hkf.out,.inl ⟨by rw [htg.out,htn.out];rfl,rfl⟩⟩
    ·have hlt12:rs.length<12:=by omega
     have hfe:((rs.length:Int)==12)=false:=by simp;omega
     have htn:=za (show zbz L f (rs++[x]) cols∧zZ L f cols (12 - (rs++[x]).length) (rs++[x])=tg∧(rs++[x]).length≤12 from
      ⟨hI.out.1.grow hlt12 hop,by rw [← hI.out.2.1,List.length_append,List.length_singleton,show 12 - rs.length=(12 - (rs.length+1))+1 by omega,zcs _ hop],by simp;omega⟩)
     rw [hop] at hfo
     clear hop hfull
     go_upto_region 3 with (go_at_call 232;refine hfo.out.mono ?_;rintro e w5 ⟨S5,rfl,hk5⟩)
     have hTb5:=hTb.out.kp hk5
     have hk15:=za (hkp.out.trans hk5)
     have hfr5:=za (fun (q:Nat) (hq:w5.heap.size≤q)=>zbv.fresh HO.out.ok hk5.j hq)
     have k6:=hTb5.blk.cell
     have hsz5:=hk15.out.size
     clear k2 hfo hk5
     go_wp2_with (at_builtin;refine zaZ w1 w5 rfl _ _ _ rfl 9 _ 1 16 Tryz.underlying99 zo rfl (by decide) (.slice R1 rs.length cr1) rs.length (zL rs) _ _ rfl rfl hsz5 hTb5.tab.r.own rfl (by simp [Value.oneCell']) (by unfold maxLen;omega) (by omega) ?_;intro g8 cap8 w8 hown8 hg8 hat8 hlt8;obtain⟨hB8,hTb8⟩:=hTb5.push (x:=x) hfr5.out hown8 hg8 hat8;have k8:=hB8.cell;have f8:=hB8.frozen)
     have hk18:=za (((hk15.out.grown HO.out.ok hg8 (fun q hq=>⟨(hTb5.tab.r.own.lt q hq).1,by have:=(hTb5.tab.r.own.lt q hq).1;omega,hTb5.tab.r.far q hq⟩)).cell HO.out.ok hgw (by omega) hTb5.far 0 (.slice (some ⟨g8,0,none⟩) (rs.length+1) cap8)))
     have HTb8:=za hTb8
     have hln8:=za (zdU (n:=rs.length+1) (R:=some ⟨g8,0,none⟩) (c:=cap8) (by have:=hTb8.blk;rwa [List.length_append,List.length_singleton] at this))
     clear hown8 hg8 hat8 hB8 hTb8 k8 f8 k6 hTb5
     go_roundw
     case rel=>exact⟨rs++[x],S5,some ⟨g8,0,none⟩,C1,cap8,cc1,za (by have:=hk18.out;rwa [show B+1680*rs.length+1680=B+1680*(rs++[x]).length by rw [List.length_append,List.length_singleton];omega] at this),HTb8,htn⟩
     case measure =>
      rw [hln.out,hln8.out]
      omega
end
section
variable {J:zbv} {B b0 L base nr cr nc cc kn:Nat} {S S':Nat→Prop} {W W':World} {R C:Option Addr} {rows cols:List ByteArray} {f:ByteArray→Bool} {rc:Value}
theorem or_newTable (hO:zgg b0 L f J kn rc)(hj:J B W S)(hB:B+21840<10000000)(hb0:b0≤W.heap.size)(hL:L<64) :
  Calls Tryz.prog 80 #[orcV L kn rc] W (RetTO J ((zZ L f [⟨#[]⟩] 11 [⟨#[]⟩]).map fun r=>(r,[⟨#[]⟩])) (B+21840) S W):=by
 have HO:=za hO
 have hx1:Ext W ((W.alloc (.cells #[.int .i64 (L:Int),.func (.func kn) #[rc] #[]] 115)).alloc (.cells #[.slice none 0 0,.slice none 0 0] 101)):=((Ext.refl _).alloc _).alloc _
 obtain⟨b1,b2⟩:=zE (Ext.refl ((W.alloc (.cells #[.int .i64 (L:Int),.func (.func kn) #[rc] #[]] 115)).alloc (.cells #[.slice none 0 0,.slice none 0 0] 101)))
 have hS1:=za (fun (q:Nat) (hq:W.heap.size≤q)=>zbv.fresh hO.ok hj hq)
 have hj1:=hO.ok.keep hj hx1 (fun _ _ h=>h.elim)
 have hs2:W.heap.size+1<((W.alloc (.cells #[.int .i64 (L:Int),.func (.func kn) #[rc] #[]] 115)).alloc (.cells #[.slice none 0 0,.slice none 0 0] 101)).heap.size:=by simp
 clear hO
 go_enter Tryz.func80,Tryz.ntmps80
 go_upto_region 1 with fail
 generalize (W.alloc (.cells #[.int .i64 (L:Int),.func (.func kn) #[rc] #[]] 115)).alloc (.cells #[.slice none 0 0,.slice none 0 0] 101)=w1 at *
 have k1:=b1.cell
 have hwS:=za (fun (q:Nat) (hq:w1.heap.size≤q)=>zbv.fresh HO.out.ok hj1 hq)
 have oa:=World.ownsRow_lit (base:=w1.heap.size) (e:=9) (size:=1) w1 #[.string ⟨#[]⟩] 1 (Nat.le_refl _) (by decide) rfl
 have hxa:Ext w1 (w1.alloc (.cells #[.string ⟨#[]⟩] 9)):=(Ext.refl _).alloc _
 have ob:=World.ownsRow_lit (base:=w1.heap.size) (e:=9) (size:=1) (w1.alloc (.cells #[.string ⟨#[]⟩] 9)) #[.string ⟨#[]⟩] 1 hxa.size (by decide) rfl
 have hxb:Ext (w1.alloc (.cells #[.string ⟨#[]⟩] 9)) ((w1.alloc (.cells #[.string ⟨#[]⟩] 9)).alloc (.cells #[.string ⟨#[]⟩] 9)):=(Ext.refl _).alloc _
 have oa2:=zh oa hxb
 have hTn:zfW ((w1.alloc (.cells #[.string ⟨#[]⟩] 9)).alloc (.cells #[.string ⟨#[]⟩] 9)) S w1.heap.size (some ⟨w1.heap.size,0,none⟩) 1 1 (some ⟨(w1.alloc (.cells #[.string ⟨#[]⟩] 9)).heap.size,0,none⟩) 1 1 [⟨#[]⟩] [⟨#[]⟩]:=
  ⟨⟨oa2,fun b hb=>hwS.out b (oa2.lt b hb).1⟩,⟨ob,fun b hb=>hwS.out b (ob.lt b hb).1⟩⟩
 have hxab:=hxa.trans hxb
 have hj3:=HO.out.ok.keep hj1 hxab (fun _ _ h=>h.elim)
 have hsz:(w1.alloc (.cells #[.string ⟨#[]⟩] 9)).heap.size=w1.heap.size+1:=by simp
 rw [hsz] at hTn
 have hcl:=za (zfa HO.out hj3 hB hTn (zbz.first L f) (by have:=hxab.size;omega) hL)
 have hS1s:=hx1.size
 have hS3s:=hxab.size
 clear oa ob oa2 hTn hj3 hsz hxa hxb
 have b2':=za ((b2.ext hxab))
 go_upto_region 99 with fail
 refine hcl.out.mono ?_
 rintro e w5 ⟨S5,hk5,hcase⟩
 have hb5:=hk5.blk b2'.out (hS1.out _ (by omega))
 have hk15:=za (hk5.back (hx1.trans hxab))
 have k5:=hb5.1.cell
 have f5:=hb5.1.frozen
 rcases hcase with ⟨hn,rfl⟩|⟨rs,cs,R,C,cr,cc,ho,rfl,hT⟩
 ·have Hn:=za hn
  clear hn hk5 k1
  go_wp2_with fail
  have hf:=(Frm.setCell w5 (W.heap.size+1) 0 (.slice none 0 0)).trans (Frm.setCell _ (W.heap.size+1) 1 (.slice none 0 0))
  have hkf:=za (hk15.out.own HO.out.ok hf (fun q _ e=>by have e':q=W.heap.size+1:=e;rw [e'];exact⟨by omega,by omega,hb5.2⟩))
  have cf:∀ i,((w5.setCell ⟨W.heap.size+1,0,none⟩ (.slice none 0 0)).setCell ⟨W.heap.size+1,1,none⟩ (.slice none 0 0)).cell? ⟨W.heap.size+1,i,none⟩=#[Value.slice none 0 0,.slice none 0 0][i]?:=fun i=>by
   have:=((hb5.1.set_ 0 (.slice none 0 0)).set_ 1 (.slice none 0 0)).cell i
   simpa using this
  clear k5 f5 hb5 hk15 hf
  generalize (w5.setCell ⟨W.heap.size+1,0,none⟩ (.slice none 0 0)).setCell ⟨W.heap.size+1,1,none⟩ (.slice none 0 0)=w9 at *
  exact bodyPost_ret (v:=.tuple #[.agg #[.slice none 0 0,.slice none 0 0],.bool false]) (by simp [results,Tryz.results80,go_sem,cf]) rfl ⟨S5,hkf.out,.inl ⟨Hn.out,rfl⟩⟩
 ·have Ho:=za ho
  have HT:=za hT
  clear ho hT hk5 k1
  go_wp2_with fail
  have ziM:=zeN HO.out.ok hk15.out HT.out hb5.1 hb5.2 (by omega) (by omega) (by omega)
  have cf:=ziM.1.cell
  have Hfin:=za ziM.2
  clear ziM k5 f5 hb5 HT hk15
  generalize (w5.setCell ⟨W.heap.size+1,0,none⟩ (.slice R rs.length cr)).setCell ⟨W.heap.size+1,1,none⟩ (.slice C cs.length cc)=w9 at *
  exact bodyPost_ret (v:=.tuple #[.agg #[.slice R rs.length cr,.slice C cs.length cc],.bool true]) (by simp [results,Tryz.results80,go_sem,cf]) rfl ⟨S5,Hfin.out.1,.inr ⟨rs,cs,R,C,cr,cc,Ho.out,rfl,Hfin.out.2⟩⟩
end
theorem zx.snoc2 {w:World} {base N:Nat} {rows:List Value} {ls:List (List Int)} {row:Value} {l:List Int}(h:zx w base rows ls)(hlow:∀ (i:Nat) (r:Value) (b:Nat),rows[i]?=some r→r.ownBlock=some b→b<N)(hN:base≤N)(hrow:w.ownsRow N 3 1 row l.length (ints l)) :
  zx w base (rows++[row]) (ls++[l]):=by
 have hlen:=h.1
 refine⟨by simp [hlen],fun i r m hr hm=>?_,fun i j ri rj b hri hrj hij hbi=>?_⟩
 ·rcases Nat.lt_trichotomy i rows.length with hi|hi|hi
  ·rw [List.getElem?_append_left hi] at hr
   rw [List.getElem?_append_left (by omega)] at hm
   exact h.2.1 i r m hr hm
  ·rw [List.getElem?_append_right (by omega),hi,Nat.sub_self] at hr
   rw [List.getElem?_append_right (by omega),hi,hlen,Nat.sub_self] at hm
   simp at hr hm
   subst hr;subst hm
   exact zq hrow hN
  ·rw [List.getElem?_eq_none (by simp;omega)] at hr;cases hr
 ·have new:∀ b,row.ownBlock=some b→N≤b:=fun b hb=>(hrow.lt b hb).1
  have hi:i≤rows.length:=by have:=(List.getElem?_eq_some_iff.1 hri).1;simp at this;omega
  have hj:j≤rows.length:=by have:=(List.getElem?_eq_some_iff.1 hrj).1;simp at this;omega
  rcases Nat.lt_or_eq_of_le hi with hi|hi<;>rcases Nat.lt_or_eq_of_le hj with hj|hj
  ·rw [List.getElem?_append_left hi] at hri
   rw [List.getElem?_append_left hj] at hrj
   exact h.2.2 i j ri rj b hri hrj hij hbi
  ·rw [List.getElem?_append_left hi] at hri
   subst hj
   simp at hrj
   subst hrj
   intro hc
   have h1:=hlow i ri b hri hbi
   have h2:=new b hc
   omega
  ·rw [List.getElem?_append_left hj] at hrj
   subst hi
   simp at hri
   subst hri
   intro hc
   have h1:=hlow j rj b hrj hc
   have h2:=new b hbi
   omega
  ·omega
theorem zdj (W:World) {base:Nat}(h:base≤W.heap.size):∃ wb:World,wb.heap.size=base∧Ext wb W:=by
 refine⟨{ W with heap:=W.heap.extract 0 base },by simp;omega,⟨rfl,rfl,rfl,by simp;omega,fun k hk _=>?_⟩⟩
 have hk':k<base:=by simp at hk;omega
 show W.heap[k]?=(W.heap.extract 0 base)[k]?
 rw [Array.getElem?_extract]
 simp only [Nat.sub_zero,Nat.zero_add]
 rw [if_pos (by omega)]
structure zfm (W:World) (S:Nat→Prop) (base N G:Nat) (al:Int) (v:Value) (ls:List (List Int)) (vA:Value) (acc:List Bool):Prop where
 gra:∃ wb:World,wb.heap.size=base∧Gra wb W G al v ls vA acc∧∃ rows,W.ownsRow base 128 1 v ls.length rows∧zx W base rows ls∧∀ (i:Nat) (r:Value) (b:Nat),rows[i]?=some r→r.ownBlock=some b→¬ S b∧b<N
 fG:¬ S G
 fv:∀ b,v.ownBlock=some b→¬ S b
 fA:∀ b,vA.ownBlock=some b→¬ S b
section
variable {J:zbv} {B b0 base N G:Nat} {S S':Nat→Prop} {W W':World} {al:Int} {v vA:Value} {ls:List (List Int)} {acc:List Bool}
theorem zfm.blk (h:zfm W S base N G al v ls vA acc):Blk W G 31 #[.int .i64 al,v,vA]:=by
 obtain⟨wb,rfl,hg,-⟩:=h.gra
 exact hg.blk
theorem zfm.frmT {T:Nat→Prop}(h:zfm W S base N G al v ls vA acc)(hf:Frm T W W')(hT:∀ b,b<W.heap.size→T b→S b∨(∀ (t:TypeId) (cs:Array Value),Blk W b t cs→t≠31∧t≠128∧t≠4∧t≠3))(hS:∀ b,b<W.heap.size→¬ S b→¬ S' b):zfm W' S' base N G al v ls vA acc:=by
 obtain⟨wb,rfl,hg,rows,h1,h2,h3⟩:=h.gra
 obtain⟨wc,hwc,hxc⟩:=zdj W' (base:=wb.heap.size) (Nat.le_trans hg.ext.size hf.size)
 have hB:¬ T G:=fun ht=>by
  rcases hT G hg.blk.lt ht with h4|h4
  ·exact h.fG h4
  ·exact (h4 _ _ hg.blk).1 rfl
 have own_no:∀ {e:TypeId} {size n:Nat} {u:Value} {xs:List Value},W.ownsRow wb.heap.size e size u n xs→(e=128∨e=4∨e=3)→(∀ b,u.ownBlock=some b→¬ S b)→∀ b,u.ownBlock=some b→¬ T b:=fun ho he hs b hb ht=>by
  rcases hT b (ho.lt b hb).2 ht with h4|h4
  ·exact hs b hb h4
  ·rcases ho.2 with ⟨h5,_⟩|⟨g,cap,cur,h5,_,hh,_⟩
   ·rw [h5] at hb;simp [Value.ownBlock] at hb
   ·rw [h5] at hb
    have:g=b:=by simpa [Value.ownBlock] using hb
    subst this
    have:=h4 _ _ hh
    rcases he with rfl|rfl|rfl
    ·exact this.2.1 rfl
    ·exact this.2.2.1 rfl
    ·exact this.2.2.2 rfl
 have r1:=zg h1 hf (own_no h1 (.inl rfl) h.fv)
 have r2:zx W' wb.heap.size rows ls:=h2.frm hf (fun i r b hr hb=>by
  obtain⟨l,_,ho⟩:=h2.row hr
  exact own_no ho (.inr (.inr rfl)) (fun b hb=>(h3 i r b hr hb).1) b hb)
 have r3:=zg hg.acc hf (own_no hg.acc (.inr (.inl rfl)) h.fA)
 refine⟨⟨wc,hwc,⟨hg.blk.frm hf hB,⟨rows,by rw [hwc];exact r1,by rw [hwc];exact r2⟩,by rw [hwc];exact r3,hxc,by rw [hwc];exact hg.hG⟩,rows,r1,r2,fun i r b hr hb=>?_⟩,hS G hg.blk.lt h.fG,fun b hb=>hS b (h1.lt b hb).2 (h.fv b hb),fun b hb=>hS b (hg.acc.lt b hb).2 (h.fA b hb)⟩
 obtain⟨l,_,ho⟩:=h2.row hr
 exact⟨hS b (ho.lt b hb).2 (h3 i r b hr hb).1,(h3 i r b hr hb).2⟩
theorem zfm.kp (h:zfm W S base N G al v ls vA acc) (k:Kp J B S W W' S'):zfm W' S' base N G al v ls vA acc:=h.frmT k.frm (fun _ _ h=>.inl h) (fun _ hb hn=>k.out hb hn)
theorem zfm.ext (h:zfm W S base N G al v ls vA acc)(hx:Ext W W'):zfm W' S base N G al v ls vA acc:=h.frmT hx (fun _ _ h=>h.elim) (fun _ _ hn=>hn)
theorem zfm.grow {u:Value} {k:Nat} {xs:List Value}(h:zfm W S base N G al v ls vA acc)(ho:W.ownsRow N 3 1 u k xs)(hg:W.grownBy W' u.ownBlock):zfm W' S base N G al v ls vA acc:=by
 obtain⟨wb,rfl,hga,rows,r1,r2,r3⟩:=h.gra
 have hf:Frm (fun k=>u.ownBlock=some k) W W':=Frm.of_grown hg
 obtain⟨wc,hwc,hxc⟩:=zdj W' (base:=wb.heap.size) (Nat.le_trans hga.ext.size hf.size)
 have s1:=zg r1 hf (fun b hb e=>zaX r1 ho (by decide) hb e)
 have s2:zx W' wb.heap.size rows ls:=r2.frm hf (fun i r b hr hb e=>by
  have h1:=(r3 i r b hr hb).2
  have h2:=(ho.lt b e).1
  omega)
 have s3:=zg hga.acc hf (fun b hb e=>zaX hga.acc ho (by decide) hb e)
 exact⟨⟨wc,hwc,⟨hga.blk.frm hf (fun e=>zw ho hga.blk (by decide) e rfl),⟨rows,by rw [hwc];exact s1,by rw [hwc];exact s2⟩,by rw [hwc];exact s3,hxc,by rw [hwc];exact hga.hG⟩,rows,s1,s2,r3⟩,h.fG,h.fv,h.fA⟩
theorem zfm.reN (h:zfm W S base N G al v ls vA acc):zfm W S base W.heap.size G al v ls vA acc:=by
 obtain⟨wb,rfl,hg,rows,h1,h2,h3⟩:=h.gra
 refine⟨⟨wb,rfl,hg,rows,h1,h2,fun i r b hr hb=>⟨(h3 i r b hr hb).1,?_⟩⟩,h.fG,h.fv,h.fA⟩
 obtain⟨l,_,ho⟩:=h2.row hr
 exact (ho.lt b hb).2
theorem zfm.push {l:List Int} {g cap:Nat} {row:Value} {rows:List Value}(h:zfm W S base N G al v ls vA acc) (r1:W.ownsRow base 128 1 v ls.length rows) (r2:zx W base rows ls) (r3:∀ (i:Nat) (r:Value) (b:Nat),rows[i]?=some r→r.ownBlock=some b→¬ S b∧b<N)(hN:base≤N)
  (hrow:W.ownsRow N 3 1 row l.length (ints l)) (hrS:∀ b,row.ownBlock=some b→¬ S b) (hfr:∀ q,W.heap.size≤q→¬ S q)
  (ziJ:W'.ownsRow base 128 1 (.slice (some ⟨g,0,none⟩) (ls.length+1) cap) (ls.length+1) (rows++[row])) (hg:W.grownBy W' v.ownBlock) (hat:v.ownBlock=some g∨g=W.heap.size+1) :
  Blk W' G 31 #[.int .i64 al,v,vA]∧zfm (W'.setCell ⟨G,1,none⟩ (.slice (some ⟨g,0,none⟩) (ls.length+1) cap)) S base (W'.setCell ⟨G,1,none⟩ (.slice (some ⟨g,0,none⟩) (ls.length+1) cap)).heap.size G al (.slice (some ⟨g,0,none⟩) (ls.length+1) cap) (ls++[l]) vA acc:=by
 obtain⟨wb,rfl,hga,-⟩:=h.gra
 have hf:Frm (fun k=>v.ownBlock=some k) W W':=Frm.of_grown hg
 have hB:Blk W' G 31 #[.int .i64 al,v,vA]:=hga.blk.frm hf (fun e=>zw r1 hga.blk (by decide) e rfl)
 have hgG:g≠G:=by
  rcases hat with h1|h1
  ·exact zw r1 hga.blk (by decide) h1
  ·have:=hga.blk.lt;omega
 have hr2:zx W' wb.heap.size (rows++[row]) (ls++[l]):=(r2.snoc2 (fun i r b hr hb=>(r3 i r b hr hb).2) hN hrow).frm hf (fun i r b hr hb hS=>by
  obtain⟨l',_,ho⟩:=(r2.snoc2 (fun i r b hr hb=>(r3 i r b hr hb).2) hN hrow).row hr
  exact zaX ho r1 (by decide) hb hS)
 have ziK:=zg hga.acc hf (fun b hb hS=>zaX hga.acc r1 (by decide) hb hS)
 have hset:=Frm.setCell W' G 1 (.slice (some ⟨g,0,none⟩) (ls.length+1) cap)
 have hl:(ls++[l]).length=ls.length+1:=by simp
 have s1:(W'.setCell ⟨G,1,none⟩ (.slice (some ⟨g,0,none⟩) (ls.length+1) cap)).ownsRow wb.heap.size 128 1 (.slice (some ⟨g,0,none⟩) (ls.length+1) cap) (ls++[l]).length (rows++[row]):=by
  rw [hl]
  exact zg ziJ hset (fun b hb e=>by obtain rfl:=zei hb;exact hgG e)
 have s2:zx (W'.setCell ⟨G,1,none⟩ (.slice (some ⟨g,0,none⟩) (ls.length+1) cap)) wb.heap.size (rows++[row]) (ls++[l]):=hr2.frm hset (fun i r b hr hb hS=>by
  obtain⟨l',_,ho⟩:=hr2.row hr
  exact zw ho hB (by decide) hb hS)
 have s3:=zg ziK hset (fun b hb hS=>zw ziK hB (by decide) hb hS)
 obtain⟨wc,hwc,hxc⟩:=zdj (W'.setCell ⟨G,1,none⟩ (.slice (some ⟨g,0,none⟩) (ls.length+1) cap)) (base:=wb.heap.size) (by have h1:=hga.ext.size;have h2:=hf.size;have h3:=hset.size;omega)
 refine⟨hB,⟨⟨wc,hwc,⟨by simpa using hB.set_ 1 (.slice (some ⟨g,0,none⟩) (ls.length+1) cap),⟨rows++[row],by rw [hwc];exact s1,by rw [hwc];exact s2⟩,by rw [hwc];exact s3,hxc,by rw [hwc];exact hga.hG⟩,rows++[row],s1,s2,fun i r b hr hb=>?_⟩,h.fG,fun b hb=>?_,h.fA⟩⟩
 ·obtain⟨l',_,ho⟩:=s2.row hr
  refine⟨?_,(ho.lt b hb).2⟩
  rcases Nat.lt_or_ge i rows.length with h1|h1
  ·rw [List.getElem?_append_left h1] at hr
   exact (r3 i r b hr hb).1
  ·rw [List.getElem?_append_right h1] at hr
   have h2:i - rows.length=0:=by
    have:=(List.getElem?_eq_some_iff.1 hr).1
    simp at this
    omega
   rw [h2] at hr
   obtain rfl:row=r:=by simpa using hr
   exact hrS b hb
 ·obtain rfl:=zei hb
  rcases hat with e|e
  ·exact h.fv _ e
  ·exact hfr _ (by omega)
theorem zfm.pushA {x:Bool} {g cap:Nat}(h:zfm W S base N G al v ls vA acc)(hfr:∀ q,W.heap.size≤q→¬ S q)
  (ziJ:W'.ownsRow base 4 1 (.slice (some ⟨g,0,none⟩) (acc.length+1) cap) (acc.length+1) (zP acc++[.bool x])) (hg:W.grownBy W' vA.ownBlock) (hat:vA.ownBlock=some g∨g=W.heap.size+1) :
  Blk W' G 31 #[.int .i64 al,v,vA]∧zfm (W'.setCell ⟨G,2,none⟩ (.slice (some ⟨g,0,none⟩) (acc.length+1) cap)) S base N G al v ls (.slice (some ⟨g,0,none⟩) (acc.length+1) cap) (acc++[x]):=by
 obtain⟨wb,rfl,hga,rows,r1,r2,r3⟩:=h.gra
 have hf:Frm (fun k=>vA.ownBlock=some k) W W':=Frm.of_grown hg
 have hB:Blk W' G 31 #[.int .i64 al,v,vA]:=hga.blk.frm hf (fun e=>zw hga.acc hga.blk (by decide) e rfl)
 have hgG:g≠G:=by
  rcases hat with h1|h1
  ·exact zw hga.acc hga.blk (by decide) h1
  ·have:=hga.blk.lt;omega
 have q1:=zg r1 hf (fun b hb hS=>zaX r1 hga.acc (by decide) hb hS)
 have q2:zx W' wb.heap.size rows ls:=r2.frm hf (fun i r b hr hb hS=>by
  obtain⟨l',_,ho⟩:=r2.row hr
  exact zaX ho hga.acc (by decide) hb hS)
 have hset:=Frm.setCell W' G 2 (.slice (some ⟨g,0,none⟩) (acc.length+1) cap)
 have hl:(acc++[x]).length=acc.length+1:=by simp
 have s1:=zg q1 hset (fun b hb hS=>zw q1 hB (by decide) hb hS)
 have s2:zx (W'.setCell ⟨G,2,none⟩ (.slice (some ⟨g,0,none⟩) (acc.length+1) cap)) wb.heap.size rows ls:=q2.frm hset (fun i r b hr hb hS=>by
  obtain⟨l',_,ho⟩:=q2.row hr
  exact zw ho hB (by decide) hb hS)
 have s3:(W'.setCell ⟨G,2,none⟩ (.slice (some ⟨g,0,none⟩) (acc.length+1) cap)).ownsRow wb.heap.size 4 1 (.slice (some ⟨g,0,none⟩) (acc.length+1) cap) (acc++[x]).length (zP (acc++[x])):=by
  rw [hl,show zP (acc++[x])=zP acc++[.bool x] by simp [zP]]
  exact zg ziJ hset (fun b hb e=>by obtain rfl:=zei hb;exact hgG e)
 obtain⟨wc,hwc,hxc⟩:=zdj (W'.setCell ⟨G,2,none⟩ (.slice (some ⟨g,0,none⟩) (acc.length+1) cap)) (base:=wb.heap.size) (by have h1:=hga.ext.size;have h2:=hf.size;have h3:=hset.size;omega)
 refine⟨hB,⟨⟨wc,hwc,⟨by simpa using hB.set_ 2 (.slice (some ⟨g,0,none⟩) (acc.length+1) cap),⟨rows,by rw [hwc];exact s1,by rw [hwc];exact s2⟩,by rw [hwc];exact s3,hxc,by rw [hwc];exact hga.hG⟩,rows,s1,s2,r3⟩,h.fG,h.fv,fun b hb=>?_⟩⟩
 obtain rfl:=zei hb
 rcases hat with e|e
 ·exact h.fA _ e
 ·exact hfr _ (by omega)
end
structure AutS (W:World) (S:Nat→Prop) (base:Nat) (A:Option Addr) (n c:Nat) (A':Option Addr) (n' c':Nat) (a:Aut):Prop where
 own:∃ rows,W.ownsRow base 128 1 (.slice A n c) a.next.length rows∧zx W base rows a.next∧∀ (i:Nat) (r:Value) (b:Nat),rows[i]?=some r→r.ownBlock=some b→¬ S b
 acc:W.ownsRow base 4 1 (.slice A' n' c') a.acc.length (zP a.acc)
 fv:∀ b,(Value.slice A n c).ownBlock=some b→¬ S b
 fA:∀ b,(Value.slice A' n' c').ownBlock=some b→¬ S b
def RetAO (J:zbv) (a:Aut) (B:Nat) (S:Nat→Prop) (W:World) (e:Ending) (W':World):Prop:=
 ∃ (S':Nat→Prop) (A A':Option Addr) (n c n' c':Nat),e=.returned (.agg #[.int .i64 a.al,.slice A n c,.slice A' n' c'])∧AutS W' S' W.heap.size A n c A' n' c' a∧Kp J B S W W' S'
section
variable {J:zbv} {B b0 base N G:Nat} {S S':Nat→Prop} {W W':World} {al:Int} {ls:List (List Int)} {acc:List Bool} {A A':Option Addr} {n c n' c':Nat} {a:Aut}
theorem own_num {w:World} {base n m c size:Nat} {e:TypeId} {A:Option Addr} {xs:List Value}(h:w.ownsRow base e size (.slice A n c) m xs):n=m:=by
 rcases h.2 with ⟨h1,h2⟩|⟨g,cap,cur,h1,_⟩
 ·injection h1 with _ h3;omega
 ·injection h1
theorem AutS.kp (h:AutS W S base A n c A' n' c' a) (k:Kp J B S W W' S'):AutS W' S' base A n c A' n' c' a:=by
 obtain⟨rows,h1,h2,h3⟩:=h.own
 refine⟨⟨rows,(k.row h1 h.fv).1,h2.frm k.frm (fun i r b hr hb=>h3 i r b hr hb),fun i r b hr hb=>?_⟩,(k.row h.acc h.fA).1,(k.row h1 h.fv).2,(k.row h.acc h.fA).2⟩
 obtain⟨l,_,ho⟩:=h2.row hr
 exact k.out (ho.lt b hb).2 (h3 i r b hr hb)
theorem AutS.ext (h:AutS W S base A n c A' n' c' a)(hx:Ext W W'):AutS W' S base A n c A' n' c' a:=by
 obtain⟨rows,h1,h2,h3⟩:=h.own
 exact⟨⟨rows,zh h1 hx,h2.ext hx,h3⟩,zh h.acc hx,h.fv,h.fA⟩
theorem AutS.own_ (h:AutS W S base A n c A' n' c' a):zac W base A n c A' n' c' a:=by
 obtain⟨rows,h1,h2,h3⟩:=h.own
 obtain rfl:=own_num h1
 obtain rfl:=own_num h.acc
 exact⟨⟨rows,h1,h2⟩,rfl,h.acc,rfl⟩
theorem zfm.autS (h:zfm W S base N G al (.slice A n c) ls (.slice A' n' c') acc):AutS W S base A n c A' n' c' ⟨al,ls,acc⟩:=by
 obtain⟨wb,rfl,hga,rows,r1,r2,r3⟩:=h.gra
 exact⟨⟨rows,r1,r2,fun i r b hr hb=>(r3 i r b hr hb).1⟩,hga.acc,h.fv,h.fA⟩
end
section
variable {J:zbv} {B b0 L base nr cr nc cc kn:Nat} {S S':Nat→Prop} {W W':World} {R C:Option Addr} {rows cols:List ByteArray} {f:ByteArray→Bool} {rc:Value}
theorem rnM_at {zs:List ByteArray} {y:ByteArray}(h:y∈zs):rnM zs y=some (zhw zs y):=by
 unfold rnM
 rw [zai.2 h,if_pos rfl]
theorem gra_first {w W:World} {S:Nat→Prop} {G:Nat} {al:Int}(hx:Ext w W)(hb:Blk W G 31 #[.int .i64 al,.slice none 0 0,.slice none 0 0])(hG:w.heap.size≤G)(hS:¬ S G):zfm W S w.heap.size W.heap.size G al (.slice none 0 0) [] (.slice none 0 0) []:=
 ⟨⟨w,rfl,⟨hb,⟨[],World.ownsRow_nil _ _ _ _,zx.nil _ _⟩,World.ownsRow_nil _ _ _ _,hx,hG⟩,[],World.ownsRow_nil _ _ _ _,zx.nil _ _,fun i r b hr=>by simp at hr⟩,hS,fun b hb=>by simp [Value.ownBlock] at hb,fun b hb=>by simp [Value.ownBlock] at hb⟩
theorem aut_ret {w5:World} {S5:Nat→Prop} {base Z n c n' c':Nat} {A A':Option Addr} {a:Aut} {u0 u1 u2:Value}(hJ:zbv.Ok b0 J)(hk:Kp J B S W w5 S5)(hA:AutS w5 S5 base A n c A' n' c' a)(hb:Blk w5 Z 31 #[u0,u1,u2])(hZ:¬ S5 Z)(hWZ:W.heap.size≤Z)(hbZ:b0≤Z)(hWb:W.heap.size≤base) :
  Blk (((w5.setCell ⟨Z,0,none⟩ (.int .i64 a.al)).setCell ⟨Z,1,none⟩ (.slice A n c)).setCell ⟨Z,2,none⟩ (.slice A' n' c')) Z 31 #[.int .i64 a.al,.slice A n c,.slice A' n' c']∧Kp J B S W (((w5.setCell ⟨Z,0,none⟩ (.int .i64 a.al)).setCell ⟨Z,1,none⟩ (.slice A n c)).setCell ⟨Z,2,none⟩ (.slice A' n' c')) S5 ∧
  AutS (((w5.setCell ⟨Z,0,none⟩ (.int .i64 a.al)).setCell ⟨Z,1,none⟩ (.slice A n c)).setCell ⟨Z,2,none⟩ (.slice A' n' c')) S5 W.heap.size A n c A' n' c' a:=by
 have hf:=(Frm.setCell w5 Z 0 (.int .i64 a.al)).trans ((Frm.setCell _ Z 1 (.slice A n c)).trans (Frm.setCell _ Z 2 (.slice A' n' c')))
 obtain⟨rows,r1,r2,r3⟩:=hA.own
 refine⟨by simpa using ((hb.set_ 0 (.int .i64 a.al)).set_ 1 (.slice A n c)).set_ 2 (.slice A' n' c'),hk.own hJ hf (fun q _ e=>by have e':q=Z:=e;rw [e'];exact⟨hWZ,hbZ,hZ⟩),⟨⟨rows,zcM (zg r1 hf (fun b hb' e=>zF r1 hb (by decide) hb' e)) hWb,(r2.frm hf (fun i r b hr hb' e=>by
  obtain⟨l,_,ho⟩:=r2.row hr
  exact zF ho hb (by decide) hb' e)).less hWb,r3⟩,zcM (zg hA.acc hf (fun b hb' e=>zF hA.acc hb (by decide) hb' e)) hWb,hA.fv,hA.fA⟩⟩
theorem zfI (hO:zgg b0 L f J kn rc)(hj:J B W S)(hB:B+1692<10000000)(hT:zfW W S base R nr cr C nc cc rows cols)(hI:zbz L f rows cols)(hcl:zav L f rows cols=none)(hb0:b0≤W.heap.size)(hL:L<64) :
  Calls Tryz.prog 81 #[orcV L kn rc,.agg #[.slice R nr cr,.slice C nc cc]] W (RetAO J (zdn L f rows cols) (B+1692) S W):=by
 have HO:=za hO
 have HI:=za hI
 have Hcl:=za (fun (r:ByteArray) (l:Nat) (hr:r∈rows) (hl:l∈letters L 6)=>zdH hcl hr hl)
 have hlr:=za hT.lens
 have hnr12:nr≤12:=by rw [← hT.lens.1];exact hI.r12
 have hnc20:=za hI.c20
 have hx1:Ext W (((W.alloc (.cells #[.int .i64 (L:Int),.func (.func kn) #[rc] #[]] 115)).alloc (.cells #[.slice R nr cr,.slice C nc cc] 101)).alloc (.cells #[.int .i64 0,.slice none 0 0,.slice none 0 0] 31)):=(((Ext.refl _).alloc _).alloc _).alloc _
 obtain⟨b2,b3,b4⟩:=zK (Ext.refl (((W.alloc (.cells #[.int .i64 (L:Int),.func (.func kn) #[rc] #[]] 115)).alloc (.cells #[.slice R nr cr,.slice C nc cc] 101)).alloc (.cells #[.int .i64 0,.slice none 0 0,.slice none 0 0] 31)))
 have hS1:=za (fun (q:Nat) (hq:W.heap.size≤q)=>zbv.fresh hO.ok hj hq)
 have hj1:=hO.ok.keep hj hx1 (fun _ _ h=>h.elim)
 have hTw:=za (hT.ext hx1)
 have hs2:W.heap.size<(((W.alloc (.cells #[.int .i64 (L:Int),.func (.func kn) #[rc] #[]] 115)).alloc (.cells #[.slice R nr cr,.slice C nc cc] 101)).alloc (.cells #[.int .i64 0,.slice none 0 0,.slice none 0 0] 31)).heap.size∧W.heap.size+1+1<(((W.alloc (.cells #[.int .i64 (L:Int),.func (.func kn) #[rc] #[]] 115)).alloc (.cells #[.slice R nr cr,.slice C nc cc] 101)).alloc (.cells #[.int .i64 0,.slice none 0 0,.slice none 0 0] 31)).heap.size:=by simp;omega
 have hsmL:Sm L:=by unfold Sm;omega
 clear hO hI hT hcl
 have Hin:=HO.out.in_
 go_enter Tryz.func81,Tryz.ntmps81
 go_upto_region 1 with fail
 generalize ((W.alloc (.cells #[.int .i64 (L:Int),.func (.func kn) #[rc] #[]] 115)).alloc (.cells #[.slice R nr cr,.slice C nc cc] 101)).alloc (.cells #[.int .i64 0,.slice none 0 0,.slice none 0 0] 31)=w1 at *
 have k2:=b2.cell
 have k3:=b3.cell
 have hrn:=za (zfb HO.out hj1 (by omega) hTw.out HI.out (by omega))
 obtain⟨zs,hzse⟩:∃ zs,Hid (zal f cols rows=zs):=⟨_,za rfl⟩
 rw [hzse.out] at hrn
 go_upto_region 2 with (go_at_call 157;refine hrn.out.mono ?_;rintro e w2 ⟨S2,mb,n,rfl,hm2,hs2b,hmge,hn12,hk2⟩)
 have B2:=za b2
 have B3:=za b3
 have B4:=za b4
 have k2:=(hk2.blk b2 (hS1.out _ (by omega))).1.cell
 have hb9:=Blk.new w2 31 #[.int .i64 0,.slice none 0 0,.slice none 0 0]
 have hx9:Ext w2 (w2.alloc (.cells #[.int .i64 0,.slice none 0 0,.slice none 0 0] 31)):=(Ext.refl _).alloc _
 have c9:=hb9.cell
 have f9:=hb9.frozen
 go_upto_region 3 with fail
 have hbb:=Blk.new w2 31 #[.int .i64 (L:Int),.slice none 0 0,.slice none 0 0]
 have hx29:Ext w2 (w2.alloc (.cells #[.int .i64 (L:Int),.slice none 0 0,.slice none 0 0] 31)):=(Ext.refl _).alloc _
 obtain⟨G,hGe⟩:∃ G,Hid (G=w2.heap.size):=⟨_,za rfl⟩
 rw [← hGe.out] at hbb ⊢
 have hS2f:=za (fun (q:Nat) (hq:w2.heap.size≤q)=>zbv.fresh HO.out.ok hk2.j hq)
 have hG2:=za (hS2f.out G (by have:=hGe.out;omega))
 have hw12:=hk2.size
 have hGw:w1.heap.size≤G:=by have:=hGe.out;omega
 clear hb9 hx9 c9 f9 b2 b3 b4 k3 hrn hj1
 generalize w2.alloc (.cells #[.int .i64 (L:Int),.slice none 0 0,.slice none 0 0] 31)=w3 at *
 have hk3:=za (hk2.ext HO.out.ok hx29)
 have hst3:=za (show zeE w3 mb n (rnM zs)∧¬ S2 mb from ⟨hm2.ext hx29,hs2b⟩)
 obtain⟨wb,hwb,hxwb⟩:=zdj w3 (base:=w1.heap.size) (by have:=hx29.size;omega)
 have hgr0:=gra_first hxwb hbb (by rw [hwb];exact hGw) hG2.out
 rw [hwb] at hgr0
 have hgr3:=za hgr0
 have k3:=((hk2.ext HO.out.ok hx29).blk B3.out (hS1.out _ (by omega))).1.cell
 clear hk2 hm2 hs2b hgr0 hwb hxwb hbb hx29 k2 hS2f
 have hls6:(letters L 6).length≤6:=zI L 6
 go_wp2_with fail
 go_loopw [8,9,11,21] (fun _ _ _ iv wr=>∃ (i:Nat) (S1:Nat→Prop) (v vA:Value) (ls:List (List Int)) (acc:List Bool),iv=.int .i64 i∧i≤nr∧Hid (Kp J (B+240+121*i) S w1 wr S1)∧Hid (zeE wr mb n (rnM zs)∧¬ S1 mb)∧Hid (zfm wr S1 w1.heap.size wr.heap.size G (L:Int) v ls vA acc)∧Hid (ls=(rows.take i).map (zcW L f rows cols)∧acc=(rows.take i).map f)) (fun _ _ _ iv _=>nr - (intOf iv).toNat)
 case atStart=>exact⟨0,S2,_,_,[],[],rfl,Nat.zero_le _,hk3,hst3,hgr3,za ⟨by simp,by simp⟩⟩
 case round =>
  clear hk3 hst3 hgr3 k3
  obtain⟨i,S1,v,vA,ls,acc,rfl,hi,hkp,hst,hgr,hla⟩:=hrel
  have k2:=(hkp.out.blk B2.out (hS1.out _ (Nat.le_refl _))).1.cell
  have k3:=(hkp.out.blk B3.out (hS1.out _ (by omega))).1.cell
  by_cases hlt:i<nr
  ·have hlt':(i:Int)<(nr:Int):=by omega
   obtain⟨x,hx⟩:∃ x,rows[i]?=some x:=⟨_,List.getElem?_eq_getElem (by have:=hlr.out.1;omega)⟩
   have Hx:=za hx
   obtain⟨gR,rfl,hc⟩:=zgE (hTw.out.kp hkp.out).r.own hx
   have hxr:=za (List.mem_of_getElem? hx)
   have hxs:x.size≤12:=(HI.out.rin hxr.out).2
   have hwrS:=za (fun (q:Nat) (hq:wr.heap.size≤q)=>zbv.fresh HO.out.ok hkp.out.j hq)
   clear hx
   go_upto_block 2 with (go_at_call 158;refine (zY L hsmL _).mono ?_;rintro e w4 ⟨AL,cL,rfl,hownL,hx4⟩)
   have hlm:=za (fun l (hl:l∈letters L 6)=>zz.1 hl)
   obtain⟨arow,harow⟩:∃ arow,Hid (zcW L f rows cols x=arow):=⟨_,za rfl⟩
   have harl:=za (show ∀ (k l:Nat),(letters L 6)[k]?=some l→arow[k]?=some ((zhw zs (mkS (zbq f cols (x++zbA l))):Nat):Int) from fun k l hl=>by
    rw [← harow.out,← hzse.out]
    unfold zcW
    rw [List.getElem?_map,hl]
    rfl)
   have hall:=za (show arow.length=(letters L 6).length by rw [← harow.out];simp [zcW])
   have hclx:=za (fun l hl=>Hcl.out x l hxr.out hl)
   rw [hzse.out] at hclx
   obtain⟨LL,hLL⟩:∃ LL,Hid (letters L 6=LL):=⟨_,za rfl⟩
   have hls6':=hls6
   rw [hLL.out] at hownL hlm harl hall hclx hls6' ⊢
   have hk4:=za (hkp.out.ext HO.out.ok hx4)
   have hst4:=za (show zeE w4 mb n (rnM zs)∧¬ S1 mb from ⟨hst.out.1.ext hx4,hst.out.2⟩)
   have hrl4:=za (show zfn w4 S1 wr.heap.size 3 1 (.slice AL LL.length cL) LL.length (zS LL) from ⟨hownL,fun b hb=>hwrS.out b (hownL.lt b hb).1⟩)
   obtain⟨N,hNe⟩:∃ N,Hid (N=w4.heap.size):=⟨_,za rfl⟩
   have hLN0:=za (fun b hb=>(hownL.lt b hb).2)
   have hgr4:=(hgr.out.ext hx4).reN
   have hLN:=hLN0
   rw [← hNe.out] at hgr4 hLN
   clear hLN0
   have hgr4h:=za hgr4
   have hw1N:w1.heap.size≤N:=by have:=hk4.out.size;have:=hNe.out;omega
   have hrow4:=za (show zfn w4 S1 N 3 1 (.slice none 0 0) 0 (ints (arow.take 0)) from ⟨World.ownsRow_nil _ _ _ _,fun b hb=>by simp [Value.ownBlock] at hb⟩)
   obtain⟨bl,hble⟩:∃ bl,Hid (bl=wr.heap.size):=⟨_,za rfl⟩
   rw [← hble.out] at hrl4
   clear hownL hx4 k2 k3 hc hst hwrS hgr hgr4 hkp
   go_wp2_with fail
   go_loopw [9,11,29] (fun v9 _ kv wr=>∃ (k:Nat) (S3:Nat→Prop),kv=.int .i64 k∧k≤LL.length∧Hid (Kp J (B+240+121*i+20*k) S w1 wr S3)∧Hid (zeE wr mb n (rnM zs)∧¬ S3 mb)∧Hid (zfm wr S3 w1.heap.size N G (L:Int) v ls vA acc)∧Hid (zfn wr S3 bl 3 1 (.slice AL LL.length cL) LL.length (zS LL))∧Hid (zfn wr S3 N 3 1 v9 k (ints (arow.take k))∧N≤wr.heap.size)) (fun _ _ kv _=>LL.length - (intOf kv).toNat)
   case atStart=>exact⟨0,S1,rfl,Nat.zero_le _,hk4,hst4,hgr4h,hrl4,za ⟨hrow4.out,by have:=hNe.out;omega⟩⟩
   case round =>
    clear hk4 hst4 hgr4h hrl4 hrow4
    obtain⟨k,S3,rfl,hk,hk3,hst,hgr,hrl,hro⟩:=hrel
    have k2:=(hk3.out.blk B2.out (hS1.out _ (Nat.le_refl _))).1.cell
    have k3:=(hk3.out.blk B3.out (hS1.out _ (by omega))).1.cell
    by_cases hkl:k<LL.length
    ·have hkl':(k:Int)<(LL.length:Int):=by omega
     obtain⟨l,hl⟩:∃ l,LL[k]?=some l:=⟨_,List.getElem?_eq_getElem hkl⟩
     obtain⟨hl6,hlb⟩:=hlm.out l (List.mem_of_getElem? hl)
     have hin9:=za (hclx.out l (List.mem_of_getElem? hl))
     have har:=za (harl.out k l hl)
     obtain⟨gl,rfl,-,-⟩:=zaq hrl.out.own (by omega)
     have cl:=zcx hrl.out.own hkl
     rw [List.getD_eq_getElem?_getD,hl,Option.getD_some] at cl
     have hcr:∀ X:World,(convert 21 9 (.int .i32 (97+(l:Int)))).run Tryz.prog X=.ok (.string (zbA l)) X:=fun X=>by
      have:=conv_rune hl6 X
      rwa [Int.natCast_add] at this
     have hw32:IntKind.i32.wrap (97+(l:Int))=97+(l:Int):=by
      simp [IntKind.wrap,IntKind.bits,IntKind.signed]
      omega
     have hsnoc:=za (HI.out.snoc hxr.out hl6 hlb)
     obtain⟨z,hz⟩:∃ z,Hid (zbA l=z):=⟨_,za rfl⟩
     have hz1:z.size=1:=by rw [← hz.out];exact zcc l
     obtain⟨y,hy⟩:∃ y,Hid (x++z=y):=⟨_,za rfl⟩
     have hyl:=za (show x++zbA l=y by rw [hz.out,hy.out])
     rw [hyl.out] at hsnoc hin9 har
     have hsz:¬ 9223372036854775807<x.size+1:=by omega
     rw [hz.out] at hcr
     obtain⟨m9,hm9⟩:∃ m9,Hid (mkS (zbq f cols y)=m9):=⟨_,za rfl⟩
     rw [hm9.out] at hin9 har
     have hM9:=za (rnM_at hin9.out)
     obtain⟨q9,hq9⟩:∃ q9,Hid (zhw zs m9=q9):=⟨_,za rfl⟩
     rw [hq9.out] at hM9 har
     have hdm:=za (show domS m9 by rw [← hm9.out];exact mkS_dom hnc20.out y)
     have hyr:=hy.out
     obtain⟨A9,c9,rfl⟩:=zi hro.out.1.own
     go_upto_region 10 with fail
     have hww:=Ext.refl wr
     have K2:∀ X,Ext wr X→∀ q,X.cell? ⟨W.heap.size,q,none⟩=#[Value.int .i64 (L:Int),.func (.func kn) #[rc] #[]][q]?:=fun X hX=>((hk3.out.blk B2.out (hS1.out _ (Nat.le_refl _))).1.ext hX).cell
     have K3:∀ X,Ext wr X→∀ q,X.cell? ⟨W.heap.size+1,q,none⟩=#[Value.slice (some ⟨gR,0,none⟩) nr cr,.slice C nc cc][q]?:=fun X hX=>((hk3.out.blk B3.out (hS1.out _ (by omega))).1.ext hX).cell
     clear k2 k3 cl hl hlb
     refine uR (fun X=>Ext wr X) [10,11,12,13] (zu.of [0,1,2,3,4,5,6,7,8,9,10,11,12,13,14]) ?_
     refine uQ ?_
     refine ze fun K hK=>?_;go_simp
     refine (zbj hl6 _).mono ?_
     rintro e w7 ⟨rfl,rfl⟩
     refine hK.out _ _ hww.drew ?_
     refine pT ?_
     refine uQ ?_
     refine zb fun K hK=>?_
     have hxd:=hww.drew
     have hk3d:=za (hk3.out.ext HO.out.ok hxd)
     have hstd:=za (show zeE wr.drew mb n (rnM zs)∧¬ S3 mb from ⟨hst.out.1.ext hxd,hst.out.2⟩)
     have hgrd:=za (hgr.out.ext hxd)
     have hrld:=za (hrl.out.ext hxd)
     have hrod:=za (hro.out.1.ext hxd)
     have hNw:N≤wr.drew.heap.size:=hro.out.2
     have HTr:=za (hTw.out.kp hk3d.out)
     clear K2 K3 hk3 hst hgr hrl hro hww hxd hcr hw32
     generalize wr.drew=wd at *
     have hmk:=za (zgD (x:=y) HO.out hk3d.out.j (by omega) HTr.out HI.out hsnoc.out.1 (by have:=hsnoc.out.2;omega) (by have:=hk3d.out.size;omega))
     rw [hm9.out] at hmk
     go_simp
     refine hmk.out.mono ?_
     rintro e w5 ⟨S5,rfl,hk5⟩
     refine hK.out _ _ ?_
     refine pT ?_
     obtain⟨hm5,hs5⟩:=zeE.kp hstd.out.1 hstd.out.2 hk5
     have hk35:=za (hk3d.out.trans hk5)
     have hgr5:=za (hgrd.out.kp hk5)
     have hrl5:=za (hrld.out.kp hk5)
     have hro5:=za (hrod.out.kp hk5)
     have hN5:N≤w5.heap.size:=Nat.le_trans hNw hk5.size
     have hfr5:=za (fun (q:Nat) (hq:w5.heap.size≤q)=>zbv.fresh HO.out.ok hk5.j hq)
     clear hmk hk5 hk3d hstd hgrd hrld hrod HTr
     refine zb fun K hK=>?_
     refine wp_mapAtG _ keyS _ _ rfl rfl hm5 m9 q9 rfl hdm.out hM9.out ?_
     refine hK.out _ _ ?_
     refine pT ?_
     refine zb fun K hK=>?_
     go_simp
     refine hK.out _ _ ?_
     refine pT ?_
     obtain⟨wn,hwn,hxwn⟩:=zdj w5 hN5
     have ziV:=hro5.out.own
     rw [← hwn] at ziV
     refine zb fun K hK=>?_
     refine zbN wn w5 _ _ _ rfl 3 _ 1 8 Tryz.underlying128 zah rfl (by decide) (.slice A9 k c9) k (ints (arow.take k)) _ _ rfl rfl hxwn.size ziV rfl (zaR _) (by unfold maxLen;omega) (by omega) ?_
     intro g9 cap9 w9 hown9 hg9 hat9 hlt9
     refine hK.out _ _ ?_
     refine pT ?_
     refine uQ ?_
     refine zf ?_
     rw [hwn] at hown9
     have hk9:=za (hk35.out.grown HO.out.ok hg9 (fun q hq=>⟨by have:=(hro5.out.own.lt q hq).1;omega,by have:=(hro5.out.own.lt q hq).1;omega,hro5.out.far q hq⟩))
     have hgr9:=za (hgr5.out.grow hro5.out.own hg9)
     have hfg:Frm (fun q=>(Value.slice A9 k c9).ownBlock=some q) w5 w9:=Frm.of_grown hg9
     have hst9:=za (show zeE w9 mb n (rnM zs)∧¬ S5 mb from ⟨hm5.frm hfg (fun e=>hm5.farOwn hro5.out.own e),hs5⟩)
     have hrl9:=za (hrl5.out.frm hfg (fun b hb e=>by
      have h1:=(hro5.out.own.lt b e).1
      have h2:=hLN.out b hb
      omega))
     have htk:=za (show arow.take (k+1)=arow.take k++[(q9:Int)] by rw [List.take_add_one,har.out];rfl)
     have hro9:=za (show zfn w9 S5 N 3 1 (.slice (some ⟨g9,0,none⟩) (k+1) cap9) (k+1) (ints (arow.take (k+1)))∧N≤w9.heap.size from
      ⟨⟨by rw [htk.out,ints,List.map_append];exact hown9,fun b hb=>by
       obtain rfl:=zei hb
       rcases hat9 with e|e
       ·exact hro5.out.far _ e
       ·exact hfr5.out _ (by omega)⟩,Nat.le_trans hN5 hfg.size⟩)
     clear hown9 hg9 hat9 ziV hwn hxwn hfg hs5 hm5
     go_wp2_with fail
     go_roundw
     case rel=>exact⟨k+1,S5,by go_num,by omega,za (by have:=hk9.out;rwa [show B+240+121*i+20*k+20=B+240+121*i+20*(k+1) by omega] at this),hst9,hgr9,hrl9,hro9⟩
     case measure=>simp [intOf];omega
    ·obtain rfl:k=LL.length:=by omega
     obtain⟨A9,c9,rfl⟩:=zi hro.out.1.own
     have hro2:=za (show wr.ownsRow N 3 1 (.slice A9 LL.length c9) arow.length (ints arow) by
      have h1:=hro.out.1.own
      rw [List.take_of_length_le (by rw [hall.out];exact Nat.le_refl _)] at h1
      rw [hall.out]
      exact h1)
     obtain⟨rows0,r1,r2,r3⟩:∃ rows0,wr.ownsRow w1.heap.size 128 1 v ls.length rows0∧zx wr w1.heap.size rows0 ls∧∀ (i:Nat) (r:Value) (b:Nat),rows0[i]?=some r→r.ownBlock=some b→¬ S3 b∧b<N:=by
      obtain⟨wb,hwb,-,rows0,h⟩:=hgr.out.gra
      exact⟨rows0,h⟩
     have Hr1:=za r1
     have Hr2:=za r2
     have Hr3:=za r3
     have hfr:=za (fun (q:Nat) (hq:wr.heap.size≤q)=>zbv.fresh HO.out.ok hk3.out.j hq)
     have hls12:ls.length≤12:=by rw [hla.out.1];simp;omega
     have kG:=hgr.out.blk.cell
     have hszw:w1.heap.size≤wr.heap.size:=hk3.out.size
     obtain⟨Av,cv,rfl⟩:=zi r1
     clear r1 r2 r3
     go_upto_region 13 with (at_builtin;refine zaZ w1 wr rfl _ _ _ rfl 128 _ 1 24 Tryz.underlying25 zdc rfl (by decide) (.slice Av ls.length cv) ls.length rows0 _ _ rfl rfl hszw Hr1.out rfl (zbS _ _ _) (by unfold maxLen;omega) (by omega) ?_;intro g7 cap7 w7 hown7 hg7 hat7 hlt7;obtain⟨hB7,hgr7⟩:=hgr.out.push Hr1.out Hr2.out Hr3.out hw1N hro2.out hro.out.1.far hfr.out hown7 hg7 hat7;have k7:=hB7.cell;have f7:=hB7.frozen)
     have hfv7:Frm (fun q=>(Value.slice Av ls.length cv).ownBlock=some q) wr w7:=Frm.of_grown hg7
     have hst7:zeE w7 mb n (rnM zs):=hst.out.1.frm hfv7 (fun e=>hst.out.1.farOwn Hr1.out e)
     have hst8:=za (show zeE (w7.setCell ⟨G,1,none⟩ (.slice (some ⟨g7,0,none⟩) (ls.length+1) cap7)) mb n (rnM zs)∧¬ S3 mb from ⟨hst7.frm (Frm.setCell w7 G 1 _) (fun e=>hst7.far hB7 e.symm),hst.out.2⟩)
     have hk8:=za ((hk3.out.grown HO.out.ok hg7 (fun q hq=>⟨(Hr1.out.lt q hq).1,by have:=(Hr1.out.lt q hq).1;omega,hgr.out.fv q hq⟩)).cell HO.out.ok hGw (by omega) hgr.out.fG 1 (.slice (some ⟨g7,0,none⟩) (ls.length+1) cap7))
     have hgr8:=za hgr7
     clear hown7 hg7 hat7 hB7 hgr7 k7 f7 hst7 hfv7 kG hk3 hst hgr hrl hro hro2 Hr1 Hr2 Hr3 hfr k2 k3
     generalize w7.setCell ⟨G,1,none⟩ (.slice (some ⟨g7,0,none⟩) (ls.length+1) cap7)=w8 at *
     have C6:∀ X,Frm S3 w8 X→∀ q,X.cell? ⟨G,q,none⟩=#[Value.int .i64 (L:Int),.slice (some ⟨g7,0,none⟩) (ls.length+1) cap7,vA][q]?:=fun X hX=>(hgr8.out.blk.frm hX hgr8.out.fG).cell
     have C2:∀ X,Frm S3 w8 X→∀ q,X.cell? ⟨W.heap.size,q,none⟩=#[Value.int .i64 (L:Int),.func (.func kn) #[rc] #[]][q]?:=fun X hX =>
      ((hk8.out.blk B2.out (hS1.out _ (Nat.le_refl _))).1.frm hX (hk8.out.blk B2.out (hS1.out _ (Nat.le_refl _))).2).cell
     have hfd:Frm S3 w8 w8.drew:=(Ext.refl w8).drew.toFrm
     obtain⟨A2,c2,rfl⟩:∃ A2 c2,vA=.slice A2 acc.length c2:=by
      obtain⟨wb,hwb,hga,-⟩:=hgr8.out.gra
      obtain⟨A2,c2,h⟩:=zi hga.acc
      exact⟨A2,c2,h⟩
     have hask:=za (HO.out.ask _ w8.drew S3 x (HO.out.ok.keep hk8.out.j (Ext.refl w8).drew (fun _ _ h=>h.elim)) (by omega) (HI.out.rin hxr.out).1 (by omega))
     obtain⟨bb,hbb⟩:∃ bb,Hid (f x=bb):=⟨_,za rfl⟩
     rw [hbb.out] at hask
     have hacl:acc.length≤12:=by rw [hla.out.2];simp;omega
     refine uR (fun X=>Frm S3 w8 X) [7,9] (zu.of [0,1,2,3,4,5,6,7,8,9]) ?_
     refine uQ ?_
     refine ze fun K hK=>?_;go_simp
     refine hask.out.mono ?_
     rintro e w5 ⟨S5,rfl,hk5⟩
     have hf5:=hfd.trans hk5.frm
     refine hK.out _ _ hf5 ?_
     refine pT ?_
     have hgr5:=za ((hgr8.out.ext (Ext.refl w8).drew).kp hk5)
     have hst5:=zeE.kp (hst8.out.1.ext (Ext.refl w8).drew) hst8.out.2 hk5
     have hk85:=za ((hk8.out.ext HO.out.ok (Ext.refl w8).drew).trans hk5)
     have hfr5:=za (fun (q:Nat) (hq:w5.heap.size≤q)=>zbv.fresh HO.out.ok hk5.j hq)
     obtain⟨hac,hsz5⟩:w5.ownsRow w1.heap.size 4 1 (.slice A2 acc.length c2) acc.length (zP acc)∧w1.heap.size≤w5.heap.size:=by
      obtain⟨wb,hwb,hga,-⟩:=hgr5.out.gra
      have h1:=hga.acc
      rw [hwb] at h1
      exact⟨h1,by have:=hga.ext.size;omega⟩
     refine ze fun K hK=>?_;go_simp
     refine hK.out _ _ (hf5.ext ((Ext.refl w5).alloc _)) ?_
     refine pT ?_
     refine zb fun K hK=>?_
     refine zbN w1 w5 _ _ _ rfl 4 _ 1 1 Tryz.underlying26 zbH rfl (by decide) (.slice A2 acc.length c2) acc.length (zP acc) _ _ rfl rfl hsz5 hac rfl (by simp [Value.oneCell']) (by unfold maxLen;omega) (by omega) ?_
     intro g6 cap6 w6 hown6 hg6 hat6 hlt6
     obtain⟨hB6,hgr6⟩:=hgr5.out.pushA (x:=bb) hfr5.out hown6 hg6 hat6
     have k6:=hB6.cell
     have f6:=hB6.frozen
     refine hK.out _ _ ?_
     refine pT ?_
     refine uQ ?_
     refine zb fun K hK=>?_
     go_simp
     refine hK.out _ _ ?_
     refine zf ?_
     have hf6:Frm (fun q=>(Value.slice A2 acc.length c2).ownBlock=some q) w5 w6:=Frm.of_grown hg6
     have hst6:zeE w6 mb n (rnM zs):=hst5.1.frm hf6 (fun e=>hst5.1.farOwn hac e)
     have hst7:=za (show zeE (w6.setCell ⟨G,2,none⟩ (.slice (some ⟨g6,0,none⟩) (acc.length+1) cap6)) mb n (rnM zs)∧¬ S5 mb from ⟨hst6.frm (Frm.setCell w6 G 2 _) (fun e=>hst6.far hB6 e.symm),hst5.2⟩)
     have hk7:=za (((hk85.out.grown HO.out.ok hg6 (fun q hq=>⟨(hac.lt q hq).1,by have:=(hac.lt q hq).1;omega,hgr5.out.fA q hq⟩)).cell HO.out.ok hGw (by omega) hgr5.out.fG 2 (.slice (some ⟨g6,0,none⟩) (acc.length+1) cap6)).more HO.out.ok (show _≤B+240+121*(i+1) by omega))
     have hgr7:=za hgr6.reN
     have hla7:=za (show ls++[arow]=(rows.take (i+1)).map (zcW L f rows cols)∧acc++[bb]=(rows.take (i+1)).map f by
      rw [List.take_add_one,Hx.out,Option.toList_some,List.map_append,List.map_append,← hla.out.1,← hla.out.2,← harow.out,← hbb.out]
      exact⟨rfl,rfl⟩)
     clear hown6 hg6 hat6 hB6 hgr6 k6 f6 hst6 hf6 hac hgr5 hst5 hk85 hf5 hk5 hfd C6 C2 hst8 hk8 hgr8
     generalize w6.setCell ⟨G,2,none⟩ (.slice (some ⟨g6,0,none⟩) (acc.length+1) cap6)=w9 at *
     go_wp2_with fail
     go_roundw
     case rel=>exact⟨i+1,S5,_,_,_,_,by go_num,by omega,hk7,hst7,hgr7,hla7⟩
     case measure=>simp [intOf];omega
  ·obtain rfl:i=nr:=by omega
   have hlen:=hlr.out.1
   have htk:=za (show rows.take i=rows from List.take_of_length_le (by omega))
   have hal:=za (show (⟨(L:Int),ls,acc⟩:Aut)=zdn L f rows cols by
    have h1:=hla.out.1
    have h2:=hla.out.2
    rw [htk.out] at h1 h2
    rw [h1,h2]
    rfl)
   obtain⟨Av,nv,cv,rfl⟩:∃ A n c,v=.slice A n c:=by
    obtain⟨wb,hwb,-,rows0,h,-⟩:=hgr.out.gra
    obtain⟨A,c,e⟩:=zi h
    exact⟨A,_,c,e⟩
   obtain⟨A2,n2,c2,rfl⟩:∃ A n c,vA=.slice A n c:=by
    obtain⟨wb,hwb,hga,-⟩:=hgr.out.gra
    obtain⟨A,c,e⟩:=zi hga.acc
    exact⟨A,_,c,e⟩
   have hA:=hgr.out.autS
   rw [hal.out] at hA
   have HA:=za hA
   have kG:=hgr.out.blk.cell
   have hb45:=hkp.out.blk B4.out (hS1.out _ (by omega))
   have k4:=hb45.1.cell
   have f4:=hb45.1.frozen
   have hk15:=za ((hkp.out.more HO.out.ok (show B+240+121*i≤B+1692 by omega)).back hx1)
   have hsz:=hx1.size
   clear k2 k3 hA hlen
   go_wp2_with fail
   have ziM:=aut_ret (a:=zdn L f rows cols) HO.out.ok hk15.out HA.out hb45.1 hb45.2 (by omega) (by omega) hsz
   have cf:=ziM.1.cell
   have Hfin:=za ziM.2
   have hal2:(zdn L f rows cols).al=(L:Int):=rfl
   rw [hal2] at cf Hfin
   clear ziM k4 f4 hb45 hk15 kG
   generalize ((wr.setCell ⟨W.heap.size+1+1,0,none⟩ (.int .i64 (L:Int))).setCell ⟨W.heap.size+1+1,1,none⟩ (.slice Av nv cv)).setCell ⟨W.heap.size+1+1,2,none⟩ (.slice A2 n2 c2)=w9 at *
   exact bodyPost_ret (v:=.agg #[.int .i64 (L:Int),.slice Av nv cv,.slice A2 n2 c2]) (by simp [results,Tryz.results81,go_sem,cf]) rfl ⟨S1,Av,A2,nv,cv,n2,c2,rfl,Hfin.out.2,Hfin.out.1⟩
end
theorem zhh {p:Aut} {f:Nat→Bool} {ls:List Nat}:∀ {q:Nat},(∀ l∈ls,p.al.toNat.testBit l=true→f l=true)→zaL p q (ls.filter f)=zaL p q ls:=by
 induction ls with
 |nil=>intro q _;rfl
 |cons l r ih =>
  intro q h
  have ih:=fun {q}=>ih (q:=q) (fun k hk=>h k (List.mem_cons_of_mem _ hk))
  rw [List.filter_cons]
  show _=zaL p (aGo p q l) r
  cases hf:f l
  ·have e:aGo p q l=q:=by
    unfold aGo
    rw [if_neg]
    intro hb
    have:=h l List.mem_cons_self hb
    rw [hf] at this;cases this
   rw [e];simpa using ih
  ·simp only [if_true]
   exact ih
theorem goes_filter {s:Sys} {f:Nat→Bool}:∀ (n:Nat) (v:List Nat),v.length=n→(∀ l∈v,s.al.toNat.testBit l=true→f l=true)→∀ q,zbc (cho s) [0] (v.filter f) q↔zbc (cho s) [0] v q:=by
 intro n
 induction n with
 |zero =>
  intro v hl _ q
  obtain rfl:=List.eq_nil_of_length_eq_zero hl
  exact Iff.rfl
 |succ n ih =>
  intro v hl h q
  rcases zQ v with rfl|⟨u,l,rfl⟩
  ·simp at hl
  have ih:=ih u (by simpa using hl) (fun k hk=>h k (by simp [hk]))
  rw [List.filter_append]
  cases hf:f l
  ·have hb:s.al.toNat.testBit l=false:=by
    rw [Bool.eq_false_iff]
    intro hb
    have:=h l (by simp) hb
    rw [hf] at this;cases this
   rw [show List.filter f [l]=[] by simp [hf],List.append_nil,ih]
   constructor
   ·intro h1
    exact .snoc h1 (by unfold cho;rw [hb];simp)
   ·intro h1
    obtain⟨m,h2,h3⟩:=h1.inv
    unfold cho at h3
    rw [hb] at h3
    simp at h3
    rw [h3]
    exact h2
  ·rw [show List.filter f [l]=[l] by simp [hf]]
   constructor
   ·intro h1
    obtain⟨m,h2,h3⟩:=h1.inv
    exact .snoc ((ih m).1 h2) h3
   ·intro h1
    obtain⟨m,h2,h3⟩:=h1.inv
    exact .snoc ((ih m).2 h2) h3
theorem zew {s:Sys} {f:Nat→Bool} {v:List Nat}(h:∀ l∈v,s.al.toNat.testBit l=true→f l=true):Runs s (v.filter f)↔Runs s v:=exists_congr fun q=>goes_filter _ v rfl h q
theorem zfj (ss:List Sys) (l:Nat):(zD ss).testBit l=true↔∃ s∈ss,s.al.toNat.testBit l=true:=by
 have key:∀ (ss:List Sys) (u:Nat),(ss.foldl (fun a s=>a|||s.al.toNat) u).testBit l=true↔u.testBit l=true∨∃ s∈ss,s.al.toNat.testBit l=true:=by
  intro ss
  induction ss with
  |nil=>intro u;simp
  |cons s r ih =>
   intro u
   rw [List.foldl_cons,ih,Nat.testBit_or,Bool.or_eq_true]
   simp [or_assoc]
 have:=key ss 0
 simpa [zD] using this
def Over (A:Nat) (v:List Nat):Prop:=∀ l∈v,l<6∧A.testBit l=true
theorem zfc {A:Nat} {v:List Nat}:(∀ l∈v,l∈letters A 6)↔Over A v:=by unfold Over;simp only [zz]
theorem runA_free (q:Nat) (v:List Nat):zaL free q v=q:=by
 induction v generalizing q with
 |nil=>rfl
 |cons l r ih =>
  show zaL free (aGo free q l) r=q
  rw [show aGo free q l=q by simp [aGo,free],ih]
theorem keepsP_iff {ss:List Sys} {p:Aut}:zeg ss p=true↔(zA ss=true∧zk p=true)∧∀ v,Over (zD ss) v→(∀ s∈ss,Runs s v)→zcg p (zaL p 0 v)=true:=by
 unfold zeg zcd
 simp only [Bool.and_eq_true,Bool.not_eq_true']
 have hf:∀ v,zcg free (zaL free 0 v)=true:=fun v=>by rw [runA_free];rfl
 have hU:zD ss|||free.al.toNat=zD ss:=by simp [free]
 constructor
 ·rintro ⟨⟨h1,h2⟩,h4⟩
  refine⟨⟨h1,h2⟩,fun v hv hr=>?_⟩
  cases hb:zcg p (zaL p 0 v)
  ·have:=(vio_iff (a:=free) (zaK h1).2 zcZ h2).2 ⟨v,zfc.2 (by rw [hU];exact hv),hr,hf v,hb⟩
   rw [h4] at this;cases this
  ·rfl
 ·rintro ⟨⟨h1,h2⟩,h4⟩
  refine⟨⟨h1,h2⟩,?_⟩
  rw [Bool.eq_false_iff]
  intro hv
  obtain⟨v,hv,hr,ha,hb⟩:=(vio_iff (a:=free) (zaK h1).2 zcZ h2).1 hv
  have:=h4 v (by rw [hU] at hv;exact zfc.1 hv) hr
  rw [hb] at this;cases this
theorem runB_goes {s:Sys} {p:Nat}(hf:Few p s.edges)(hp:p≤16):∀ (n:Nat) (v:List Nat),v.length=n→(∀ l∈v,s.al.toNat.testBit l=true)→∀ q,(runB s.edges 1 v).testBit q=true↔zbc (cho s) [0] v q:=by
 intro n
 induction n with
 |zero =>
  intro v hl _ q
  obtain rfl:=List.eq_nil_of_length_eq_zero hl
  constructor
  ·intro h
   refine .nil ?_
   cases q with
   |zero=>simp
   |succ q =>
    exfalso
    have h1:(1:Nat).testBit (q+1)=true:=h
    rw [Nat.testBit_succ] at h1
    simp at h1
  ·intro h
   have:=h.inv_nil
   simp at this
   subst this
   show (1:Nat).testBit 0=true
   decide
 |succ n ih =>
  intro v hl h q
  rcases zQ v with rfl|⟨u,l,rfl⟩
  ·simp at hl
  have ih:=ih u (by simpa using hl) (fun k hk=>h k (by simp [hk]))
  rw [runB_snoc,zdi]
  have hb:=h l (by simp)
  constructor
  ·rintro ⟨e,he,⟨h1,h2⟩,rfl⟩
   have hfe:=hf e he
   refine .snoc ((ih _).1 h2) ?_
   unfold cho
   rw [if_pos hb]
   refine zz.2 ⟨by omega,(zdu _ _ _ _).2 ⟨e,he,⟨by omega,h1⟩,rfl⟩⟩
  ·intro h1
   obtain⟨m,h2,h3⟩:=h1.inv
   unfold cho at h3
   rw [if_pos hb] at h3
   obtain⟨e,he,⟨h4,h5⟩,h6⟩:=(zdu _ _ _ _).1 (zz.1 h3).2
   exact⟨e,he,⟨h5,by rw [h4];simpa using (ih m).2 h2⟩,h6⟩
theorem bits_some {x:Nat}:(x != 0)=true↔∃ q,x.testBit q=true:=by
 rw [bne_iff_ne]
 constructor
 ·intro h
  apply Classical.byContradiction
  intro hn
  refine h (Nat.eq_of_testBit_eq fun q=>?_)
  rw [Nat.zero_testBit,Bool.eq_false_iff]
  exact fun hq=>hn ⟨q,hq⟩
 ·rintro ⟨q,hq⟩ rfl
  rw [Nat.zero_testBit] at hq;cases hq
theorem aft_runs {s:Sys} {x:ByteArray}(hv:zn s=true)(hw:zaM x=true):(aftB s (zby x s.al.toNat) != 0)=true↔Runs s (wl x):=by
 obtain⟨p,_,_,hp2,hf⟩:=zdQ hv
 unfold aftB
 rw [hv,zds hw,Bool.and_self,if_pos rfl,wl_restB hw,bits_some]
 refine Iff.trans ?_ (zew (f:=fun l=>s.al.toNat.testBit l) (fun l _ h=>h))
 exact exists_congr fun q=>runB_goes hf hp2 _ _ rfl (fun l hl=>by simpa using (List.mem_filter.1 hl).2) q
theorem top_iff {ss:List Sys} {x:ByteArray}:topB ss x=true↔zA ss=true∧zaM x=true∧Over (zD ss) (wl x)∧∀ s∈ss,Runs s (wl x):=by
 unfold topB
 simp only [Bool.and_eq_true,List.all_eq_true]
 constructor
 ·rintro ⟨h1,h2,h3⟩
  have hw:=zaP h2
  refine⟨h1,hw,fun l hl=>⟨wl_lt hw l hl,?_⟩,fun s hs=>(aft_runs ((zaK h1).2 s hs) hw).1 (h3 s hs)⟩
  have h4:=(zes.1 h2).2
  have h5:=(zdm (wl x) l).2 hl
  rw [← h4,Nat.testBit_and,Bool.and_eq_true] at h5
  exact h5.2
 ·rintro ⟨h1,h2,h3,h4⟩
  refine⟨h1,zes.2 ⟨h2,Nat.eq_of_testBit_eq fun k=>?_⟩,fun s hs=>(aft_runs ((zaK h1).2 s hs) h2).2 (h4 s hs)⟩
  rw [Nat.testBit_and]
  cases hk:(alB (wl x)).testBit k
  ·rfl
  ·rw [(h3 k ((zdm _ k).1 hk)).2];rfl
theorem ziu {ss:List Sys}(h1:1≤ss.length)(h3:ss.length≤3)(hv:∀ s∈ss,zn s=true):zA ss=true:=by
 unfold zA
 simp only [Bool.and_eq_true,decide_eq_true_eq,List.all_eq_true]
 exact⟨h1,h3,hv⟩
theorem zeT {s t:Sys} {p:Aut}(hs:zn s=true)(hp:zk p=true)(ht:zn t=true):iface s p t=(((s.al.toNat|||p.al.toNat)&&&t.al.toNat:Nat):Int):=by
 unfold iface
 rw [hs,hp,ht];rfl
theorem zbi {s t:Sys} {p:Aut}(h:0≤iface s p t):zn s=true∧zk p=true∧zn t=true:=by
 have h1:¬ iface s p t<0:=by omega
 rw [iface_neg] at h1
 simpa using h1
theorem shuffle (a b:Nat→Bool):∀ (n:Nat) (v u:List Nat),v.length+u.length≤n→(∀ l∈v,a l=true)→(∀ l∈u,b l=true)→v.filter b=u.filter a →
  ∃ z:List Nat,z.filter a=v∧z.filter b=u∧∀ l∈z,l∈v∨l∈u:=by
 intro n
 induction n with
 |zero =>
  intro v u hn _ _ _
  obtain rfl:=List.eq_nil_of_length_eq_zero (show v.length=0 by omega)
  obtain rfl:=List.eq_nil_of_length_eq_zero (show u.length=0 by omega)
  exact⟨[],rfl,rfl,by simp⟩
 |succ n ih =>
  intro v u hn hv hu he
  match v,u with
  |[],[]=>exact⟨[],rfl,rfl,by simp⟩
  |[],m :: u =>
   have hm:a m=false:=by
    cases hm:a m
    ·rfl
    ·rw [List.filter_nil,List.filter_cons_of_pos hm] at he;cases he
   obtain⟨z,h1,h2,h3⟩:=ih [] u (by simp at hn ⊢;omega) (by simp) (fun l hl=>hu l (List.mem_cons_of_mem _ hl)) (by rw [List.filter_cons_of_neg (by rw [hm];decide)] at he;exact he)
   refine⟨m :: z,by rw [List.filter_cons_of_neg (by rw [hm];decide)];exact h1,by rw [List.filter_cons_of_pos (hu m (by simp)),h2],fun l hl=>?_⟩
   rcases List.mem_cons.1 hl with rfl|hl
   ·exact .inr (by simp)
   ·rcases h3 l hl with h|h
    ·exact .inl h
    ·exact .inr (List.mem_cons_of_mem _ h)
  |l :: v,u =>
   cases hb:b l
   ·obtain⟨z,h1,h2,h3⟩:=ih v u (by simp at hn ⊢;omega) (fun x hx=>hv x (List.mem_cons_of_mem _ hx)) hu (by rw [List.filter_cons_of_neg (by rw [hb];decide)] at he;exact he)
    refine⟨l :: z,by rw [List.filter_cons_of_pos (hv l (by simp)),h1],by rw [List.filter_cons_of_neg (by rw [hb];decide)];exact h2,fun x hx=>?_⟩
    rcases List.mem_cons.1 hx with rfl|hx
    ·exact .inl (by simp)
    ·rcases h3 x hx with h|h
     ·exact .inl (List.mem_cons_of_mem _ h)
     ·exact .inr h
   ·cases u with
    |nil=>rw [List.filter_cons_of_pos hb,List.filter_nil] at he;cases he
    |cons m u =>
     cases ha:a m
     ·obtain⟨z,h1,h2,h3⟩:=ih (l :: v) u (by simp at hn ⊢;omega) hv (fun x hx=>hu x (List.mem_cons_of_mem _ hx)) (by rw [List.filter_cons_of_neg (a:=m) (by rw [ha];decide)] at he;exact he)
      refine⟨m :: z,by rw [List.filter_cons_of_neg (by rw [ha];decide)];exact h1,by rw [List.filter_cons_of_pos (hu m (by simp)),h2],fun x hx=>?_⟩
      rcases List.mem_cons.1 hx with rfl|hx
      ·exact .inr (by simp)
      ·rcases h3 x hx with h|h
       ·exact .inl h
       ·exact .inr (List.mem_cons_of_mem _ h)
     ·rw [List.filter_cons_of_pos hb,List.filter_cons_of_pos ha] at he
      obtain⟨rfl,he2⟩:=List.cons.inj he
      obtain⟨z,h1,h2,h3⟩:=ih v u (by simp at hn ⊢;omega) (fun x hx=>hv x (List.mem_cons_of_mem _ hx)) (fun x hx=>hu x (List.mem_cons_of_mem _ hx)) he2
      refine⟨l :: z,by rw [List.filter_cons_of_pos ha,h1],by rw [List.filter_cons_of_pos hb,h2],fun x hx=>?_⟩
      rcases List.mem_cons.1 hx with rfl|hx
      ·exact .inl (by simp)
      ·rcases h3 x hx with h|h
       ·exact .inl (List.mem_cons_of_mem _ h)
       ·exact .inr (List.mem_cons_of_mem _ h)
section
variable {s:Sys} {p:Aut} {A:Nat}
theorem cl_word {B:Nat→Nat→Prop} {w:List Nat}(hB:∀ q i,B q i→∃ v,(∀ l∈v,l<6∧(s.al.toNat.testBit l=true∨A.testBit l=true))∧v.filter (fun l=>A.testBit l)=w∧zbc (cho s) [0] v q∧i=zaL p 0 v) {q i:Nat}(h:Cl s p A B q i) :
  ∃ v,(∀ l∈v,l<6∧(s.al.toNat.testBit l=true∨A.testBit l=true))∧v.filter (fun l=>A.testBit l)=w∧zbc (cho s) [0] v q∧i=zaL p 0 v:=by
 induction h with
 |base h=>exact hB _ _ h
 |@hid q i l q' _ hl hq ih =>
  obtain⟨v,h1,h2,h3,h4⟩:=ih
  obtain⟨l1,l2,l3⟩:=hl
  refine⟨v++[l],fun x hx=>?_,by rw [List.filter_append,h2,List.filter_cons_of_neg (by rw [l3];decide)];simp,.snoc h3 hq,by rw [zbk,h4]⟩
  rcases List.mem_append.1 hx with hx|hx
  ·exact h1 x hx
  ·obtain rfl:=List.mem_singleton.1 hx;exact⟨l1,.inl l2⟩
theorem prR_word:∀ (r:List Nat),(∀ l∈r,l<6∧A.testBit l=true)→∀ q i,prR s p A r q i →
  ∃ v,(∀ l∈v,l<6∧(s.al.toNat.testBit l=true∨A.testBit l=true))∧v.filter (fun l=>A.testBit l)=r.reverse∧zbc (cho s) [0] v q∧i=zaL p 0 v:=by
 intro r
 induction r with
 |nil =>
  intro _ q i h
  refine cl_word (fun q i hb=>?_) h
  obtain⟨rfl,rfl⟩:=hb
  exact⟨[],by simp,rfl,.nil (by simp),rfl⟩
 |cons l r ih =>
  intro hr q i h
  refine cl_word (fun q i hb=>?_) h
  obtain⟨q0,i0,h1,h2,rfl⟩:=hb
  obtain⟨v,h3,h4,h5,h6⟩:=ih (fun x hx=>hr x (List.mem_cons_of_mem _ hx)) q0 i0 h1
  obtain⟨l1,l2⟩:=hr l (by simp)
  refine⟨v++[l],fun x hx=>?_,by rw [List.filter_append,h4,List.filter_cons_of_pos l2,List.reverse_cons];rfl,.snoc h5 h2,by rw [zbk,h6]⟩
  rcases List.mem_append.1 hx with hx|hx
  ·exact h3 x hx
  ·obtain rfl:=List.mem_singleton.1 hx;exact⟨l1,.inr l2⟩
theorem word_prR:∀ (n:Nat) (v:List Nat),v.length=n→(∀ l∈v,l<6∧(s.al.toNat.testBit l=true∨A.testBit l=true))→∀ q,zbc (cho s) [0] v q→prR s p A (v.filter fun l=>A.testBit l).reverse q (zaL p 0 v):=by
 intro n
 induction n with
 |zero =>
  intro v hl _ q h
  obtain rfl:=List.eq_nil_of_length_eq_zero hl
  have h0:=h.inv_nil
  simp only [List.mem_singleton] at h0
  exact .base ⟨h0,rfl⟩
 |succ n ih =>
  intro v hl hv q h
  rcases zQ v with rfl|⟨w,l,rfl⟩
  ·simp at hl
  obtain⟨m,h1,h2⟩:=h.inv
  have h3:=ih w (by simpa using hl) (fun a ha=>hv a (by simp [ha])) m h1
  obtain⟨l1,l2⟩:=hv l (by simp)
  rw [zbk,List.filter_append]
  cases hA:A.testBit l
  ·rw [List.filter_cons_of_neg (by rw [hA];decide),List.filter_nil,List.append_nil]
   have hsl:s.al.toNat.testBit l=true:=by
    rcases l2 with h|h
    ·exact h
    ·rw [hA] at h;cases h
   have hc:∀ (r:List Nat) {q' i'},prR s p A r m i'→q'∈cho s m l→prR s p A r q' (aGo p i' l):=by
    intro r q' i' hp hq
    cases r with
    |nil=>exact .hid hp ⟨l1,hsl,hA⟩ hq
    |cons a r=>exact .hid hp ⟨l1,hsl,hA⟩ hq
   exact hc _ h3 h2
  ·rw [List.filter_cons_of_pos hA,List.filter_nil,List.reverse_append]
   exact .base ⟨m,_,h3,h2,rfl⟩
theorem bad_iff {w:List Nat}(hw:∀ l∈w,l<6∧A.testBit l=true):Bad s p A w↔∃ v,(∀ l∈v,l<6∧(s.al.toNat.testBit l=true∨A.testBit l=true))∧v.filter (fun l=>A.testBit l)=w∧Runs s v∧zcg p (zaL p 0 v)=false:=by
 constructor
 ·rintro ⟨q,i,h1,h2⟩
  obtain⟨v,h3,h4,h5,h6⟩:=prR_word w.reverse (fun l hl=>hw l (List.mem_reverse.1 hl)) q i h1
  rw [List.reverse_reverse] at h4
  exact⟨v,h3,h4,⟨q,h5⟩,by rw [← h6];exact h2⟩
 ·rintro ⟨v,h1,h2,⟨q,h3⟩,h4⟩
  refine⟨q,_,?_,h4⟩
  have:=word_prR (p:=p) (A:=A) _ v rfl h1 q h3
  rw [h2] at this
  exact this
end
theorem runs_take {s:Sys} {v:List Nat}(h:Runs s v) (k:Nat):Runs s (v.take k):=by
 have key:∀ (n:Nat) (v u:List Nat),u.length=n→Runs s (v++u)→Runs s v:=by
  intro n
  induction n with
  |zero =>
   intro v u hl h
   obtain rfl:=List.eq_nil_of_length_eq_zero hl
   rwa [List.append_nil] at h
  |succ n ih =>
   intro v u hl h
   rcases zQ u with rfl|⟨w,l,rfl⟩
   ·simp at hl
   obtain⟨q,hq⟩:=h
   rw [← List.append_assoc] at hq
   obtain⟨m,h1,-⟩:=hq.inv
   exact ih v w (by simpa using hl) ⟨m,h1⟩
 refine key _ (v.take k) (v.drop k) rfl ?_
 rwa [List.take_append_drop]
theorem take_filter (f:Nat→Bool):∀ (u:List Nat) (k:Nat),k≤(u.filter f).length→∃ j,(u.take j).filter f=(u.filter f).take k:=by
 intro u
 induction u with
 |nil=>intro k _;exact⟨0,by simp⟩
 |cons a r ih =>
  intro k hk
  cases ha:f a
  ·rw [List.filter_cons_of_neg (by rw [ha];decide)] at hk ⊢
   obtain⟨j,hj⟩:=ih k hk
   exact⟨j+1,by rw [List.take_succ_cons,List.filter_cons_of_neg (by rw [ha];decide)];exact hj⟩
  ·rw [List.filter_cons_of_pos ha] at hk ⊢
   cases k with
   |zero=>exact⟨0,by simp⟩
   |succ k =>
    obtain⟨j,hj⟩:=ih k (by simpa using hk)
    exact⟨j+1,by rw [List.take_succ_cons,List.filter_cons_of_pos ha,hj,List.take_succ_cons]⟩
theorem ziI {x:Sys} {ts:List Sys} {p:Aut} {L:Nat} {u:List Nat}(hL:L=(x.al.toNat|||p.al.toNat)&&&zD ts)(hpa:zA (x :: ts)=true)(hu:Over (zD ts) u)(hr:∀ t∈ts,Runs t u)
  (hs:¬ SafeW x p L (u.filter fun l=>L.testBit l)):zeg (x :: ts) p=false:=by
 have hLb:∀ l,L.testBit l=true↔(x.al.toNat.testBit l=true∨p.al.toNat.testBit l=true)∧(zD ts).testBit l=true:=by
  intro l
  rw [hL,Nat.testBit_and,Nat.testBit_or]
  simp
 obtain⟨k,hk,hbad⟩:∃ k,k≤(u.filter fun l=>L.testBit l).length∧Bad x p L ((u.filter fun l=>L.testBit l).take k):=by
  apply Classical.byContradiction
  intro hn
  exact hs (fun k hk hb=>hn ⟨k,hk,hb⟩)
 obtain⟨j,hj⟩:=take_filter (fun l=>L.testBit l) u k hk
 rw [← hj] at hbad
 have hu2:Over (zD ts) (u.take j):=fun l hl=>hu l (List.mem_of_mem_take hl)
 have hr2:∀ t∈ts,Runs t (u.take j):=fun t ht=>runs_take (hr t ht) j
 generalize u.take j=u at *
 obtain⟨v,h1,h2,h3,h4⟩:=(bad_iff (fun l hl=>by
  obtain⟨h5,h6⟩:=List.mem_filter.1 hl
  exact⟨(hu2 l h5).1,h6⟩)).1 hbad
 obtain⟨z,z1,z2,z3⟩:=shuffle (fun l=>x.al.toNat.testBit l || L.testBit l) (fun l=>(zD ts).testBit l) _ v u (Nat.le_refl _) (fun l hl=>by
   rcases (h1 l hl).2 with h|h<;>simp [h]) (fun l hl=>(hu2 l hl).2) (by
  have e1:v.filter (fun l=>(zD ts).testBit l)=v.filter (fun l=>L.testBit l):=by
   refine List.filter_congr fun l hl=>?_
   rw [Bool.eq_iff_iff,hLb]
   refine⟨fun h=>?_,fun h=>h.2⟩
   rcases (h1 l hl).2 with h5|h5
   ·exact⟨.inl h5,h⟩
   ·exact (hLb l).1 h5
  have e2:u.filter (fun l=>x.al.toNat.testBit l || L.testBit l)=u.filter (fun l=>L.testBit l):=by
   refine List.filter_congr fun l hl=>?_
   rw [Bool.eq_iff_iff,Bool.or_eq_true]
   refine⟨fun h=>?_,.inr⟩
   rcases h with h|h
   ·exact (hLb l).2 ⟨.inl h,(hu2 l hl).2⟩
   ·exact h
  rw [e1,e2,h2])
 have hov:Over (zD (x :: ts)) z:=by
  intro l hl
  rw [zfj]
  rcases z3 l hl with h|h
  ·obtain⟨h5,h6⟩:=h1 l h
   refine⟨h5,?_⟩
   rcases h6 with h6|h6
   ·exact⟨x,by simp,h6⟩
   ·obtain⟨t,ht,h7⟩:=(zfj ts l).1 ((hLb l).1 h6).2
    exact⟨t,List.mem_cons_of_mem _ ht,h7⟩
  ·obtain⟨h5,h6⟩:=hu2 l h
   obtain⟨t,ht,h7⟩:=(zfj ts l).1 h6
   exact⟨h5,t,List.mem_cons_of_mem _ ht,h7⟩
 rw [Bool.eq_false_iff]
 intro hkp
 have ziK:=(keepsP_iff.1 hkp).2 z hov (fun t ht=>by
  rcases List.mem_cons.1 ht with rfl|ht
  ·refine (zew (f:=fun l=>t.al.toNat.testBit l || L.testBit l) (fun l _ hb=>by simp [hb])).1 ?_
   rw [z1];exact h3
  ·refine (zew (f:=fun l=>(zD ts).testBit l) (fun l _ hb=>(zfj ts l).2 ⟨t,ht,hb⟩)).1 ?_
   rw [z2];exact hr2 t ht)
 have e:zaL p 0 z=zaL p 0 v:=by
  rw [← z1]
  refine (zhh fun l hl hb=>?_).symm
  rcases z3 l hl with h|h
  ·rcases (h1 l h).2 with h6|h6<;>simp [h6]
  ·have:=(hLb l).2 ⟨.inr hb,(hu2 l h).2⟩
   simp [this]
 rw [e,h4] at ziK
 cases ziK
theorem Frm.grownG {T:Nat→Prop} {w W W':World} {row:Option Nat}(h:Frm T w W)(hg:W.grownBy W' row)(hr:∀ k,row=some k→w.heap.size≤k):Frm T w W':=
 ⟨hg.os.trans h.os,hg.tape.trans h.tape,hg.output.trans h.output,Nat.le_trans h.size hg.size,fun k hk hn=>(hg.block k (Nat.lt_of_lt_of_le hk h.size) (fun e=>by have:=hr k e.symm;omega)).trans (h.block k hk hn)⟩
structure Gr2 (w0 W:World) (G:Nat) (al st:Int) (v:Value) (es:List Edg):Prop where
 blk:Blk W G 38 #[.int .i64 al,.int .i64 st,v]
 own:W.ownsRow w0.heap.size 152 3 v es.length (zy es)
 fr:Frm (fun k=>k=G) w0 W
 hG:G<w0.heap.size
theorem Gr2.ext_ {w0 W W':World} {G:Nat} {al st:Int} {v:Value} {es:List Edg}(h:Gr2 w0 W G al st v es)(hb:Ext W W'):Gr2 w0 W' G al st v es:=⟨h.blk.ext hb,zh h.own hb,h.fr.ext hb,h.hG⟩
theorem Gr2.push {w0 W W':World} {G:Nat} {al st:Int} {v:Value} {es:List Edg} {g cap:Nat} {e:Edg}(h:Gr2 w0 W G al st v es) (ziJ:W'.ownsRow w0.heap.size 152 3 (.slice (some ⟨g,0,none⟩) (es.length+1) cap) (es.length+1) (zy es++[.int .i64 e.fr,.int .i64 e.le,.int .i64 e.ta]))
  (hg:W.grownBy W' v.ownBlock) :
  Hid (W'.cell? ⟨G,2,none⟩=some v)∧W'.frozen? ⟨G,2,none⟩=false∧Gr2 w0 (W'.setCell ⟨G,2,none⟩ (.slice (some ⟨g,0,none⟩) (es.length+1) cap)) G al st (.slice (some ⟨g,0,none⟩) (es.length+1) cap) (es++[e]):=by
 have hB:Blk W' G 38 #[.int .i64 al,.int .i64 st,v]:=(hg.block G h.blk.lt (fun e=>by have:=(h.own.lt G e.symm).1;have:=h.hG;omega)).trans h.blk
 have hgG:=(ziJ.lt g rfl).1
 have hG:=h.hG
 have hf:Frm (fun k=>k=G) w0 W':=h.fr.grownG hg (fun k hk=>(h.own.lt k hk).1)
 refine⟨hB.cell 2,hB.frozen 2,⟨by simpa using hB.set_ 2 _,?_,hf.cell rfl _,hG⟩⟩
 have:=zg ziJ (Frm.setCell W' G 2 (.slice (some ⟨g,0,none⟩) (es.length+1) cap)) (fun b hv hS=>by
  have:g=b:=by simpa [Value.ownBlock] using hv
  omega)
 rw [zbo]
 simpa [zy] using this
theorem spec_l2Rank {p k:Nat} {w:World}(hp:p≤16)(hk:k≤p) :
  Calls Tryz.prog 275 #[.int .i64 (2 ^ p - 1:Nat),.int .i64 k] w fun e w'=>e=.returned (.int .i64 (k:Nat))∧w=w':=by
 have hF:2 ^ p - 1<65536:=by have:=Nat.pow_le_pow_right (show 1≤2 by omega) hp;have:(2:Nat) ^ 16=65536:=rfl;omega
 have HB:=za (fun i (hi:i<p)=>show (2 ^ p - 1).testBit i=true by rw [Nat.testBit_two_pow_sub_one];simpa using hi)
 generalize 2 ^ p - 1=F at *
 go_enter Tryz.func275,Tryz.ntmps275
 go_wp2_with fail
 go_loop [5,6] (fun v iv=>∃ i:Nat,iv=.int .i64 i∧i≤k∧v=.int .i64 i) (fun _ iv=>k - (intOf iv).toNat)
 case atStart=>exact⟨0,rfl,Nat.zero_le _,rfl⟩
 case round =>
  obtain⟨i,rfl,hi,rfl⟩:=hrel
  by_cases hlt:i<k
  ·have hlt':(i:Int)<(k:Int):=by omega
   have Hb:=za (HB.out i (by omega))
   go_wp2_with (go_at_call 140;refine (zab F i (by unfold Sm;omega) _ (by omega)).mono ?_;rw [Hb.out];rintro e w' ⟨rfl,rfl⟩)
   go_round
   case rel=>exact⟨i+1,by go_num,by omega,by go_num⟩
   case measure=>simp [intOf];omega
  ·obtain rfl:i=k:=by omega
   go_wp2_with fail
   go_ret
   exact⟨rfl,rfl⟩
section
variable {w W:World} {lo hi n c m d m' d':Nat} {A B B':Option Addr} {s:Sys} {p:Aut}
theorem yC11a3 {P:Prop}(h:P:=by
 refine zb fun K hK=>?_
 go_simp
 refine hK.out _ _ ?_
 refine zf ?_
 go_wp2_with fail
 go_meet
 obtain⟨w1,h1,h2⟩:=Hfin.out
 exact⟨w1,rfl,h1,h2⟩
 ):P:=h
theorem spec_l2Keep {P:Nat}(h:zM w lo hi A n s)(hv:zn s=true)(hP:s.st=(P:Int))(hn:n≤1000000)(hhi:hi≤w.heap.size) :
  Calls Tryz.prog 240 #[.agg #[.int .i64 s.al,.int .i64 s.st,.slice A n c],.int .i64 (2 ^ P - 1:Nat)] w (RetSys w s):=by
 have hsm:=zbQ hv
 obtain⟨hs1,hs2,hf,-⟩:=hsm
 have hP16:P≤16:=by omega
 have hPn:s.st.toNat=P:=by omega
 rw [hPn] at hf
 have Hf:=za hf
 have HS:=za (fun W (hW:Ext w W)=>h.ext hW)
 have hl:=za h.1
 have HPe:=za hP
 have hF:2 ^ P - 1<65536:=by have:=Nat.pow_le_pow_right (show 1≤2 by omega) hP16;have:(2:Nat) ^ 16=65536:=rfl;omega
 have HRk:=za (fun k W (hk:k≤P)=>spec_l2Rank (w:=W) hP16 hk)
 have HB:=za (fun i (hi:i<P)=>show (2 ^ P - 1).testBit i=true by rw [Nat.testBit_two_pow_sub_one];simpa using hi)
 rw [hP]
 generalize 2 ^ P - 1=F at *
 have hx0:Ext w ((w.alloc (.cells #[.int .i64 s.al,.int .i64 (P:Nat),.slice A n c] 38)).alloc (.cells #[.int .i64 0,.int .i64 0,.slice none 0 0] 38)):=((Ext.refl _).alloc _).alloc _
 obtain⟨b1,b2⟩:=zE (Ext.refl ((w.alloc (.cells #[.int .i64 s.al,.int .i64 (P:Nat),.slice A n c] 38)).alloc (.cells #[.int .i64 0,.int .i64 0,.slice none 0 0] 38)))
 clear h hv hP hs1 hs2 hf hPn
 go_enter Tryz.func240,Tryz.ntmps240
 go_upto_region 1 with fail
 generalize (w.alloc (.cells #[.int .i64 s.al,.int .i64 (P:Nat),.slice A n c] 38)).alloc (.cells #[.int .i64 0,.int .i64 0,.slice none 0 0] 38)=w0 at *
 have CB:=b1.cells
 have hww:=Ext.refl w0
 have hb2:=b2.lt
 have hRP:=za (fun W=>HRk.out P W (Nat.le_refl _))
 have hww1:=hww.drew
 have hxb:=(Ext.refl w0.drew).alloc (.cells #[.int .i64 0,.int .i64 0,.slice none 0 0] 38)
 have bG:=Blk.new w0.drew 38 #[.int .i64 0,.int .i64 0,.slice none 0 0]
 go_cut [5] (fun v wx=>∃ w1,v=.pointer (some ⟨w0.heap.size,0,none⟩)∧Ext w0 w1∧Gr2 w1 wx w0.heap.size s.al (P:Nat) (.slice none 0 0) [])
 case first =>
  have ziM:∃ w1,Ext w0 w1∧Gr2 w1 (w0.alloc (.cells #[.int .i64 s.al,.int .i64 (P:Nat),.slice none 0 0] 38)).drew w0.heap.size s.al (P:Nat) (.slice none 0 0) []:=
   ⟨(w0.alloc (.cells #[.int .i64 s.al,.int .i64 (P:Nat),.slice none 0 0] 38)).drew,((Ext.refl _).alloc _).drew,Blk.new w0 _ _,World.ownsRow_nil _ _ _ _,Frm.refl _ _,by simp⟩
  have Hfin:=za ziM
  have cG:=bG.cell
  have fG:=bG.frozen
  rw [show w0.drew.heap.size=w0.heap.size from rfl] at cG fG
  clear ziM
  refine uR (fun X=>Ext w0 X) [8] (zu.app [0,1,2,3,4] (zu.two 5 (zu.of [6,7,8]) 7 (zu.of [5,6,8]))) ?_
  refine uQ ?_
  refine zm (fun K hK=>?_) (fun K hK=>?_)
  ·go_simp
   refine (hRP.out _).mono ?_
   rintro e w' ⟨rfl,rfl⟩
   refine hK.out _ _ hww1 ?_
   refine pT ?_
   refine uQ ?_
   refine ze fun K hK=>?_;go_simp
   refine hK.out _ _ (hww1.alloc _) ?_
   refine pT ?_
   exact yC11a3
  ·go_simp
   refine hK.out _ _ (hww1.alloc _) ?_
   refine pT ?_
   refine ze fun K hK=>?_;go_simp
   refine (hRP.out _).mono ?_
   rintro e w' ⟨rfl,rfl⟩
   refine hK.out _ _ (hww1.alloc _) ?_
   refine pT ?_
   refine uQ ?_
   exact yC11a3
 case rest =>
  obtain⟨w1,rfl,hx01,hgr⟩:=hcut
  have HSw:=za (fun W (hW:Ext w1 W)=>HS.out W (hx0.trans (hx01.trans hW)))
  have CB1:∀ W,Frm (fun k=>k=w0.heap.size) w1 W→∀ q,W.cell? ⟨w.heap.size,q,none⟩=#[Value.int .i64 s.al,.int .i64 (P:Nat),.slice A n c][q]?:=fun W hW=>((b1.ext hx01).frm hW (by omega)).cell
  have hs01:=hx01.size
  clear hxb bG hww1 CB hww
  go_wp2_with fail
  go_loopw [6] (fun iv wr=>∃ (k:Nat) (v:Value),iv=.int .i64 k∧k≤n∧Gr2 w1 wr w0.heap.size s.al (P:Nat) v (s.edges.take k)) (fun iv _=>n - (intOf iv).toNat)
  case atStart=>exact⟨0,_,rfl,Nat.zero_le _,hgr⟩
  case round =>
   clear hgr
   obtain⟨k,v,rfl,hk,hgr⟩:=hrel
   have k1:=CB1 wr hgr.fr
   by_cases hlt:k<n
   ·have hlt':(k:Int)<(n:Int):=by omega
    have hSr:=(HSw.out w1 (Ext.refl _)).frm hgr.fr (fun k h1 h2 e=>by have:=hx0.size;omega)
    obtain⟨g,o,x,rfl,hglo,hghi,hx,c0,c1,c2⟩:=hSr.2.edge hlt
    obtain⟨⟨f0,f1⟩,⟨l0,l1⟩,t0,t1⟩:=Hf.out x (List.mem_of_getElem? hx.out)
    obtain⟨fr,hfr⟩:∃ fr:Nat,Hid (x.fr=fr):=⟨x.fr.toNat,by unfold Hid;omega⟩
    obtain⟨to_,hto⟩:∃ to_:Nat,Hid (x.ta=to_):=⟨x.ta.toNat,by unfold Hid;omega⟩
    have hfrP:fr<P:=by have:=hfr.out;omega
    have htoP:to_<P:=by have:=hto.out;omega
    rw [hfr.out] at c0
    rw [hto.out] at c2
    have hR1:=za (fun W=>HRk.out fr W (by omega))
    have hR2:=za (fun W=>HRk.out to_ W (by omega))
    have hB1:=za (HB.out fr hfrP)
    have hB2:=za (HB.out to_ htoP)
    have hxe:=(Ext.refl wr).alloc (.cells #[.int .i64 fr,.int .i64 x.le,.int .i64 to_] 152)
    have be:=Blk.new wr 152 #[.int .i64 fr,.int .i64 x.le,.int .i64 to_]
    have hgr2:=hgr.ext_ hxe
    have hk1:=za hgr.fr.size
    have hst:=za (show zy (s.edges.take (k+1))=zy (s.edges.take k)++[.int .i64 fr,.int .i64 x.le,.int .i64 to_] by
     rw [List.take_add_one,hx.out,Option.toList_some,zbo,← hfr.out,← hto.out];rfl)
    have hlt2:=za (show (s.edges.take k).length=k by rw [List.length_take];have:=hl.out;omega)
    clear f0 f1 t0 t1 hgr
    go_upto_region 6 with fail
    generalize hge:wr.heap.size=ge at *
    have HGe:=za hge
    clear hge
    generalize wr.alloc (.cells #[.int .i64 fr,.int .i64 x.le,.int .i64 to_] 152)=w2 at *
    have ce:=be.cell
    go_wp2_with (first
     |(go_at_call 140;with_reducible refine (zab F fr (by unfold Sm;omega) _ (by omega)).mono ?_;rw [hB1.out];rintro e w' ⟨rfl,rfl⟩)
     |(go_at_call 140;with_reducible refine (zab F to_ (by unfold Sm;omega) _ (by omega)).mono ?_;rw [hB2.out];rintro e w' ⟨rfl,rfl⟩))
    have CE:=be.cells
    have CG:∀ W,Ext w2 W→∀ q,W.cell? ⟨w0.heap.size,q,none⟩=#[Value.int .i64 s.al,.int .i64 (P:Nat),v][q]?:=fun W hW=>(hgr2.blk.ext hW).cell
    have hww:=Ext.refl w2
    clear ce
    refine uR (fun X=>Ext w2 X) [14,16] (zu.of [0,1,2,3,4,6,7,8,9,10,5,11,12,13,14,15,16]) ?_
    refine uQ ?_
    have hxd:=hww.drew
    refine ze fun K hK=>?_;go_simp
    refine (hR1.out _).mono ?_
    rintro e w' ⟨rfl,rfl⟩
    refine hK.out _ _ hxd ?_
    refine pT ?_
    refine uQ ?_
    refine ze fun K hK=>?_;go_simp
    refine (hR2.out _).mono ?_
    rintro e w' ⟨rfl,rfl⟩
    refine hK.out _ _ hxd ?_
    refine pT ?_
    refine uQ ?_
    refine ze fun K hK=>?_;go_simp
    refine hK.out _ _ (hxd.alloc _) ?_
    refine pT ?_
    refine zb fun K hK=>?_
    have hgr3:=hgr2.ext_ hxd
    have ziU:=hgr3.own
    rw [hlt2.out] at ziU
    refine zbN w1 w2.drew _ _ _ rfl 152 _ 3 24 Tryz.underlying36 zgt rfl (by decide) v k (zy (s.edges.take k)) _ _ rfl rfl hgr3.fr.size ziU rfl (by simp [Value.oneCell']) (by unfold maxLen;omega) (by omega) ?_
    intro g8 cap8 w8 hown8 hg8 hat8 hlt8
    refine hK.out _ _ ?_
    refine pT ?_
    refine uQ ?_
    obtain⟨p1,p2,p3⟩:=hgr3.push (e:=⟨fr,x.le,to_⟩) (W':=w8) (by rw [hlt2.out];exact hown8) hg8
    have p1':=p1.out
    have heq:=za (show s.edges.take k++[⟨fr,x.le,to_⟩]=s.edges.take (k+1) by
     rw [List.take_add_one,hx.out,Option.toList_some,← hfr.out,← hto.out])
    rw [heq.out,hlt2.out] at p3
    refine zb fun K hK=>?_
    go_simp
    refine hK.out _ _ ?_
    refine zf ?_
    clear hown8 hg8 hat8 ziU p1 hgr3
    generalize w8.setCell ⟨w0.heap.size,2,none⟩ (.slice (some ⟨g8,0,none⟩) (k+1) cap8)=w10 at *
    go_wp2_with fail
    go_roundw
    case rel=>exact⟨k+1,_,by go_num,by omega,p3⟩
    case measure=>simp [intOf];omega
   ·obtain rfl:k=n:=by omega
    rw [List.take_of_length_le (by have:=hl.out;omega)] at hgr
    have ziJ:=hgr.own
    rw [← hl.out] at ziJ
    obtain⟨A1,c1,rfl⟩:=zi ziJ
    have bz:=(b2.ext hx01).frm hgr.fr (by omega)
    have kz:=bz.cell
    have fz:=bz.frozen
    have kG:=hgr.blk.cell
    have hf:=zap wr (w.heap.size+1) (.int .i64 s.al) (.int .i64 (P:Nat)) (.slice A1 k c1)
    have cf:=(zaT bz rfl (.int .i64 s.al) (.int .i64 (P:Nat)) (.slice A1 k c1)).cell
    have hxw:Ext w wr:=(hx0.trans hx01).frm hgr.fr (fun k hk e=>by have:=hx0.size;omega)
    have hret:=za (show RetSys w s (.returned (.agg #[.int .i64 s.al,.int .i64 (P:Nat),.slice A1 k c1])) (((wr.setCell ⟨w.heap.size+1,0,none⟩ (.int .i64 s.al)).setCell ⟨w.heap.size+1,1,none⟩ (.int .i64 (P:Nat))).setCell ⟨w.heap.size+1,2,none⟩ (.slice A1 k c1)) from
     ⟨A1,k,c1,by rw [HPe.out],⟨hl.out,zq (zg ziJ hf (fun b hv e=>zw ziJ bz (by decide) hv e)) (hx0.trans hx01).size⟩,hxw.frm hf (fun k hk e=>by omega)⟩)
    clear hf ziJ
    go_wp2_with fail
    exact bodyPost_ret (v:=.agg #[.int .i64 s.al,.int .i64 (P:Nat),.slice A1 k c1]) (by simp [results,Tryz.results240,go_sem,cf]) rfl hret.out
end
theorem tot_le6:∀ ls:List (List Int),(∀ l∈ls,l.length≤6)→tot ls≤ls.length*6
 |[],_=>by simp [tot]
 |l :: r,h=>by
  have:=tot_le6 r (fun x hx=>h x (by simp [hx]))
  have:=h l (by simp)
  rw [show tot (l :: r)=l.length+tot r by simp [tot],List.length_cons,Nat.add_mul]
  omega
theorem zck {a:Aut}(h:zk a=true):a.size≤1048576:=by
 obtain⟨_,⟨_,h1⟩,h2,h3⟩:=zl h
 have h4:=tot_le6 a.next (fun l hl=>by
  obtain⟨q,hq⟩:=List.getElem?_of_mem hl
  obtain⟨h5,_⟩:=h3 q l hq
  rw [h5];exact zI _ _)
 unfold Aut.size
 omega
def zhO (w:World) (s:Sys) (p:Aut) (L:Nat) (e:Ending) (w':World):Prop:=
 ∃ (A:Option Addr) (n c:Nat) (B:Option Addr) (m d:Nat) (B':Option Addr) (m' d':Nat),e=.returned (.tuple #[.agg #[.int .i64 s.al,.int .i64 s.st,.slice A n c,.int .i64 p.al,.slice B m d,.slice B' m' d',.int .i64 L],.bool true])∧Tch w' A n B m B' m' s p L∧Ext w w'
section
variable {w:World} {lo hi n c lo1 hi1 m d m' d' lo2 hi2 k c2:Nat} {A B B' C:Option Addr} {s t:Sys} {p:Aut}
theorem spec_TaskOf {L:Nat}(hs:zM w lo hi A n s)(hp:zC w lo1 hi1 B m B' m' p)(ht:zM w lo2 hi2 C k t)(hif:iface s p t=(L:Int))(hn:n≤1000000)(hhi:hi≤w.heap.size) :
  Calls Tryz.prog 174 #[.agg #[.int .i64 s.al,.int .i64 s.st,.slice A n c],.agg #[.int .i64 p.al,.slice B m d,.slice B' m' d'],.agg #[.int .i64 t.al,.int .i64 t.st,.slice C k c2]] w (zhO w s p L):=by
 obtain⟨vs,vp,vt⟩:=zbi (show 0≤iface s p t by omega)
 have hL:L<64:=by
  rw [zeT vs vp vt] at hif
  have h1:=zN vt
  have h2:((s.al.toNat|||p.al.toNat)&&&t.al.toNat)≤t.al.toNat:=Nat.and_le_right
  omega
 have HIf:=za (fun W (hW:Ext w W)=>zdy (c:=c) (d1:=d) (d1':=d') (c2:=c2) (hs.ext hW) (hp.ext hW) (ht.ext hW))
 rw [hif] at HIf
 obtain⟨P,hP⟩:∃ P:Nat,s.st=(P:Int):=⟨s.st.toNat,by have:=(zbQ vs).1;omega⟩
 have hP16:P≤16:=by have:=(zbQ vs).2.1;omega
 have HK:=za (fun W (hW:Ext w W)=>spec_l2Keep (c:=c) (hs.ext hW) vs hP hn (Nat.le_trans hhi hW.size))
 have HC:=za (fun W (hW:Ext w W)=>zaY (c:=d) (c':=d') (hp.ext hW) (zck vp))
 have hF:1≤2 ^ P∧2 ^ P≤65536:=⟨Nat.one_le_two_pow,by have:=Nat.pow_le_pow_right (show 1≤2 by omega) hP16;have h2:(2:Nat) ^ 16=65536:=rfl;omega⟩
 have HBit:=za (fun W=>zfB P (by omega) W)
 have HPe:=za hP
 have hV:=za (And.intro vs (And.intro vp hL))
 rw [hP] at HIf HK ⊢
 generalize hFe:2 ^ P=F at *
 have hsub:IntKind.i64.wrap ((F:Int) - 1)=((F - 1:Nat):Int):=by rw [IntWalk.i64_in _ (by omega)];omega
 clear hFe hs hp ht hif vs vp vt hP
 have hx0:Ext w ((((w.alloc (.cells #[.int .i64 s.al,.int .i64 (P:Nat),.slice A n c] 38)).alloc (.cells #[.int .i64 p.al,.slice B m d,.slice B' m' d'] 31)).alloc (.cells #[.int .i64 t.al,.int .i64 t.st,.slice C k c2] 38)).alloc (.cells #[.int .i64 0,.int .i64 0,.slice none 0 0,.int .i64 0,.slice none 0 0,.slice none 0 0,.int .i64 0] 96)):=((((Ext.refl _).alloc _).alloc _).alloc _).alloc _
 obtain⟨b1,b2,b3⟩:=zK ((Ext.refl _).alloc _:Ext (((w.alloc (.cells #[.int .i64 s.al,.int .i64 (P:Nat),.slice A n c] 38)).alloc (.cells #[.int .i64 p.al,.slice B m d,.slice B' m' d'] 31)).alloc (.cells #[.int .i64 t.al,.int .i64 t.st,.slice C k c2] 38)) ((((w.alloc (.cells #[.int .i64 s.al,.int .i64 (P:Nat),.slice A n c] 38)).alloc (.cells #[.int .i64 p.al,.slice B m d,.slice B' m' d'] 31)).alloc (.cells #[.int .i64 t.al,.int .i64 t.st,.slice C k c2] 38)).alloc (.cells #[.int .i64 0,.int .i64 0,.slice none 0 0,.int .i64 0,.slice none 0 0,.slice none 0 0,.int .i64 0] 96)))
 have b4:=Blk.new (((w.alloc (.cells #[.int .i64 s.al,.int .i64 (P:Nat),.slice A n c] 38)).alloc (.cells #[.int .i64 p.al,.slice B m d,.slice B' m' d'] 31)).alloc (.cells #[.int .i64 t.al,.int .i64 t.st,.slice C k c2] 38)) 96 #[.int .i64 0,.int .i64 0,.slice none 0 0,.int .i64 0,.slice none 0 0,.slice none 0 0,.int .i64 0]
 simp only [World.size_alloc] at b4
 go_enter Tryz.func174,Tryz.ntmps174
 go_upto_region 1 with fail
 generalize (((w.alloc (.cells #[.int .i64 s.al,.int .i64 (P:Nat),.slice A n c] 38)).alloc (.cells #[.int .i64 p.al,.slice B m d,.slice B' m' d'] 31)).alloc (.cells #[.int .i64 t.al,.int .i64 t.st,.slice C k c2] 38)).alloc (.cells #[.int .i64 0,.int .i64 0,.slice none 0 0,.int .i64 0,.slice none 0 0,.slice none 0 0,.int .i64 0] 96)=w0 at *
 have CS:=b1.cells
 have CP:=b2.cells
 have CT:=b3.cells
 have hww:=Ext.refl w0
 go_upto_region 4 with (first
  |(go_at_call 114;refine (HIf.out _ hx0).mono ?_;rintro e w1 ⟨rfl,hx01⟩))
 have hx1:=hx0.trans hx01
 have CS1:∀ W,Ext w1 W→∀ q,W.cell? ⟨w.heap.size,q,none⟩=#[Value.int .i64 s.al,.int .i64 (P:Nat),.slice A n c][q]?:=fun W hW=>CS W (hx01.trans hW)
 have CP1:∀ W,Ext w1 W→∀ q,W.cell? ⟨w.heap.size+1,q,none⟩=#[Value.int .i64 p.al,.slice B m d,.slice B' m' d'][q]?:=fun W hW=>CP W (hx01.trans hW)
 have hw1:=Ext.refl w1
 clear CS CP CT hww
 refine uR (fun X=>Ext w1 X) [10] (zu.of [0,1,2,6,8,3,4,5,7,9,10,11]) ?_
 refine uQ ?_
 have hxd:=hw1.drew
 refine ze fun K hK=>?_;go_simp
 refine (HBit.out _).mono ?_
 rintro e w' ⟨rfl,rfl⟩
 refine hK.out _ _ hxd ?_
 refine pT ?_
 refine uQ ?_
 refine ze fun K hK=>?_;go_simp
 refine (HK.out _ (hx1.trans hxd)).mono ?_
 rintro e w2 ⟨A1,n1,c1,rfl,ho1,hx2⟩
 rw [HPe.out]
 have hx12:Ext w1 w2:=hxd.trans hx2
 refine hK.out _ _ hx12 ?_
 refine pT ?_
 refine uQ ?_
 refine ze fun K hK=>?_;go_simp
 refine (HC.out _ (hx1.trans hx12)).mono ?_
 rintro e w3 ⟨B1,m1,d1,B1',m1',d1',rfl,ho2,hx3⟩
 have hx13:=hx12.trans hx3
 refine hK.out _ _ hx13 ?_
 refine pT ?_
 refine uQ ?_
 have hxw:=hx1.trans hx13
 have bz:=b4.ext (hx01.trans hx13)
 have kz:=bz.cell
 have fz:=bz.frozen
 have hs1:=ho1.ext hx3
 have hb4:=b4.lt
 have hsys:zM w3 w0.heap.size w3.heap.size A1 n1 s:=(show zM w3 _ w3.heap.size A1 n1 s from ⟨hs1.1,Reads.of_own hs1.2⟩).more (hx01.trans hxd).size (Nat.le_refl _)
 have haut:zC w3 w0.heap.size w3.heap.size B1 m1 B1' m1' p:=ho2.reads.more (hx01.trans hx12).size (Nat.le_refl _)
 have hsz0:=hx0.size
 have hf:Frm (fun k=>k=w.heap.size+1+1+1) w3 (((((((w3.setCell ⟨w.heap.size+1+1+1,0,none⟩ (.int .i64 s.al)).setCell ⟨w.heap.size+1+1+1,1,none⟩ (.int .i64 (P:Nat))).setCell ⟨w.heap.size+1+1+1,2,none⟩ (.slice A1 n1 c1)).setCell ⟨w.heap.size+1+1+1,3,none⟩ (.int .i64 p.al)).setCell ⟨w.heap.size+1+1+1,4,none⟩ (.slice B1 m1 d1)).setCell ⟨w.heap.size+1+1+1,5,none⟩ (.slice B1' m1' d1')).setCell ⟨w.heap.size+1+1+1,6,none⟩ (.int .i64 (L:Nat))):=
  ((((((Frm.setCell w3 _ 0 _).trans (Frm.setCell _ _ 1 _)).trans (Frm.setCell _ _ 2 _)).trans (Frm.setCell _ _ 3 _)).trans (Frm.setCell _ _ 4 _)).trans (Frm.setCell _ _ 5 _)).trans (Frm.setCell _ _ 6 _)
 have bW:Blk (((((((w3.setCell ⟨w.heap.size+1+1+1,0,none⟩ (.int .i64 s.al)).setCell ⟨w.heap.size+1+1+1,1,none⟩ (.int .i64 (P:Nat))).setCell ⟨w.heap.size+1+1+1,2,none⟩ (.slice A1 n1 c1)).setCell ⟨w.heap.size+1+1+1,3,none⟩ (.int .i64 p.al)).setCell ⟨w.heap.size+1+1+1,4,none⟩ (.slice B1 m1 d1)).setCell ⟨w.heap.size+1+1+1,5,none⟩ (.slice B1' m1' d1')).setCell ⟨w.heap.size+1+1+1,6,none⟩ (.int .i64 (L:Nat))) (w.heap.size+1+1+1) 96 #[.int .i64 s.al,.int .i64 (P:Nat),.slice A1 n1 c1,.int .i64 p.al,.slice B1 m1 d1,.slice B1' m1' d1',.int .i64 (L:Nat)]:=by
  simpa using ((((((bz.set_ 0 (.int .i64 s.al)).set_ 1 (.int .i64 (P:Nat))).set_ 2 (.slice A1 n1 c1)).set_ 3 (.int .i64 p.al)).set_ 4 (.slice B1 m1 d1)).set_ 5 (.slice B1' m1' d1')).set_ 6 (.int .i64 (L:Nat))
 refine zb fun K hK=>?_
 go_simp
 generalize (((((((w3.setCell ⟨w.heap.size+1+1+1,0,none⟩ (.int .i64 s.al)).setCell ⟨w.heap.size+1+1+1,1,none⟩ (.int .i64 (P:Nat))).setCell ⟨w.heap.size+1+1+1,2,none⟩ (.slice A1 n1 c1)).setCell ⟨w.heap.size+1+1+1,3,none⟩ (.int .i64 p.al)).setCell ⟨w.heap.size+1+1+1,4,none⟩ (.slice B1 m1 d1)).setCell ⟨w.heap.size+1+1+1,5,none⟩ (.slice B1' m1' d1')).setCell ⟨w.heap.size+1+1+1,6,none⟩ (.int .i64 (L:Nat)))=W at *
 have hret:=za (show zhO w s p L (.returned (.tuple #[.agg #[.int .i64 s.al,.int .i64 (P:Nat),.slice A1 n1 c1,.int .i64 p.al,.slice B1 m1 d1,.slice B1' m1' d1',.int .i64 (L:Nat)],.bool true])) W from
  ⟨A1,n1,c1,B1,m1,d1,B1',m1',d1',by rw [HPe.out],⟨⟨w0.heap.size,w3.heap.size,hsys.frm hf (fun k h1 h2 e=>by omega),haut.frm hf (fun k h1 h2 e=>by omega),hf.size⟩,hV.out.1,hV.out.2.1,hV.out.2.2⟩,hxw.frm hf (fun k hk e=>by omega)⟩)
 have cf:=bW.cell
 clear hf bW hsys haut kz fz bz hs1 ho1 ho2 hxw
 refine hK.out _ _ ?_
 clear hK
 refine pT ?_
 refine uQ ?_
 refine zf ?_
 go_wp2_with fail
 exact bodyPost_ret (v:=.tuple #[.agg #[.int .i64 s.al,.int .i64 (P:Nat),.slice A1 n1 c1,.int .i64 p.al,.slice B1 m1 d1,.slice B1' m1' d1',.int .i64 (L:Nat)],.bool true]) (by simp [results,Tryz.results174,go_sem,cf]) rfl hret.out
end
section
variable {d:Nat→Nat→List Nat} {start L:List Nat} {goal:Nat→Bool} {N:Nat}
theorem zeh (h:¬ Lost d start goal L):∃ v,Found d start goal L v:=by
 have h1:∃ v,(∀ l∈v,l∈L)∧∃ x,zbc d start v x∧goal x=true:=by
  apply Classical.byContradiction
  intro hn
  apply h
  intro v hv x hx
  cases hg:goal x with
  |false=>rfl
  |true=>exact absurd ⟨v,hv,x,hx,hg⟩ hn
 have key:∀ n v,zcj v=n→(∀ l∈v,l∈L)→(∃ x,zbc d start v x∧goal x=true)→∃ v,Found d start goal L v:=by
  intro n
  induction n using Nat.strongRecOn with
  |ind n ih =>
   intro v hn hv hx
   by_cases hm:∃ u,(∀ l∈u,l∈L)∧zcj u<zcj v∧∃ x,zbc d start u x∧goal x=true
   ·obtain⟨u,hu,hlt,hux⟩:=hm
    exact ih (zcj u) (by omega) u rfl hu hux
   ·refine⟨v,hv,hx,fun u hu hlt x hgx=>?_⟩
    cases hg:goal x with
    |false=>rfl
    |true=>exact absurd ⟨u,hu,hlt,x,hgx,hg⟩ hm
 obtain⟨v,hv,hx⟩:=h1
 exact key _ v rfl hv hx
theorem found_len {v:List Nat}(h:Found d [0] goal L v)(h6:∀ l∈L,l<6)(hN:0<N)(hd:∀ x l,x<N→l∈L→∀ y∈d x l,y<N):v.length<N:=by
 obtain⟨hv,⟨x,hx,hg⟩,hmin⟩:=h
 obtain⟨x0,h0,hdn⟩:=zbc.dn (L:=L) (v:=[]) (u:=v) (goal:=goal) (by simpa using hx) hg hv
 have hx0:x0=0:=by have:=h0.inv_nil;simpa using this
 subst hx0
 have hex:∃ n,Mn d L goal n 0∧n≤v.length:=by
  have key:∀ n,Dn d L goal n 0→∃ m,Mn d L goal m 0∧m≤n:=by
   intro n
   induction n using Nat.strongRecOn with
   |ind n ih =>
    intro hn
    by_cases hm:∃ m,m<n∧Dn d L goal m 0
    ·obtain⟨m,hmn,hm⟩:=hm
     obtain⟨k,h1,h2⟩:=ih m hmn hm
     exact⟨k,h1,by omega⟩
    ·exact⟨n,⟨hn,fun m hmn hm'=>hm ⟨m,hmn,hm'⟩⟩,Nat.le_refl _⟩
  exact key _ hdn
 obtain⟨n,hn,-⟩:=hex
 have hnN:=hn.lt hN hd
 obtain⟨u,hul,huL,y,hy,hgy⟩:=Dn.word (v:=[]) (start:=[0]) hn.1 (.nil (by simp))
 rcases Nat.lt_or_ge n v.length with hlt|hge
 ·have:=hmin u huL (zgW (fun l hl=>h6 l (hv l hl)) (fun l hl=>h6 l (huL l hl)) (by omega)) y (by simpa using hy)
  rw [hgy] at this;cases this
 ·omega
theorem firstW_ok (h6:∀ l∈L,l<6)(hN:0<N)(hd:∀ x l,x<N→l∈L→∀ y∈d x l,y<N):(∀ l∈zfF d [0] goal L,l<6)∧(zfF d [0] goal L).length<N:=by
 by_cases h:Lost d [0] goal L
 ·rw [(zft h).1]
  exact⟨by simp,by simpa using hN⟩
 ·obtain⟨v,hv⟩:=zeh h
  rw [(zen h6 hv).1]
  exact⟨fun l hl=>h6 l (hv.1 l hl),found_len hv h6 hN hd⟩
end
theorem wstr_word {v:List Nat}(h6:∀ l∈v,l<6)(hl:v.length≤50000):zaM (wstr v)=true:=by
 unfold zaM
 simp only [Bool.and_eq_true,decide_eq_true_eq]
 refine⟨by rw [zgV];exact hl,?_⟩
 rw [List.all_eq_true]
 intro b hb
 unfold wstr lbs at hb
 rw [strOfNums_data,List.map_map] at hb
 obtain⟨l,hl,rfl⟩:=List.mem_map.1 hb
 have hl6:=h6 l hl
 have key:∀ l,l<6→zcw (UInt8.ofNat (97+l))=true:=by decide
 have e:((fun n:Int=>UInt8.ofNat n.toNat) ∘ fun l:Nat=>((97+l:Nat):Int)) l=UInt8.ofNat (97+l):=by
  show UInt8.ofNat (((97+l:Nat):Int)).toNat=_
  rw [Int.toNat_natCast]
 first
  |(rw [e];exact key l hl6)
  |(have:=key l hl6;simpa using this)
theorem vioW_word {ss:List Sys} {a p:Aut}(hss:∀ s∈ss,zn s=true)(ha:zk a=true)(hp:zk p=true)(hN:zB (zaO ss [a,p])≤50000):zaM (vioW ss a p)=true∧(vioW ss a p).size<zB (zaO ss [a,p]):=by
 have hm:∀ m∈zaO ss [a,p],zdB m:=by
  intro m hm
  unfold zaO at hm
  rcases List.mem_append.1 hm with h|h
  ·obtain⟨s,hs,rfl⟩:=List.mem_map.1 h
   exact zdJ (zbQ (hss s hs))
  ·simp at h
   rcases h with rfl|rfl
   ·exact zbg ha
   ·exact zbg hp
 obtain⟨h1,h2⟩:=firstW_ok (d:=zbC ss a p) (goal:=zbs a p) (L:=letters (zD ss|||a.al.toNat) 6) (N:=zB (zaO ss [a,p])) (fun l hl=>(zz.1 hl).1) (zfd hm) (fun x l _ hl y hy=>by
  rw [zcF] at hy
  exact zhF hm (zz.1 hl).1 y hy)
 unfold vioW
 exact⟨wstr_word h1 (by omega),by rw [zgV];exact h2⟩
theorem prod_le {ss:List Sys} {a p:Aut}(hss:∀ s∈ss,zn s=true):zB (zaO ss [a,p])≤16 ^ ss.length*(a.next.length*p.next.length):=by
 induction ss with
 |nil=>simp [zaO,zB,zag,zbf]
 |cons s r ih =>
  have h1:=ih (fun s hs=>hss s (List.mem_cons_of_mem _ hs))
  have h2:s.st.toNat≤16:=by have:=(zbQ (hss s List.mem_cons_self)).2.1;omega
  show zB (zdk s :: zaO r [a,p])≤_
  rw [zde,List.length_cons,Nat.pow_succ]
  calc s.st.toNat*zB (zaO r [a,p])≤16*(16 ^ r.length*(a.next.length*p.next.length)):=Nat.mul_le_mul h2 h1
   _=16 ^ r.length*16*(a.next.length*p.next.length):=by rw [← Nat.mul_assoc,Nat.mul_comm 16]
theorem zeC {s:Sys} {a p:Aut}(hs:zn s=true)(ha:zk a=true)(hp:zk p=true):zaM (zbl s a p)=true∧(zbl s a p).size≤2304:=by
 have h1:=(zl ha).2.1.2
 have h2:=(zl hp).2.1.2
 have h3:=prod_le (ss:=[s]) (a:=a) (p:=p) (by simpa using hs)
 have h4:a.next.length*p.next.length≤12*12:=Nat.mul_le_mul h1 h2
 simp only [List.length_singleton,Nat.pow_one] at h3
 obtain⟨h5,h6⟩:=vioW_word (ss:=[s]) (by simpa using hs) ha hp (by omega)
 unfold zbl
 rw [if_pos (by unfold zcC;rw [hs,ha,hp];rfl)]
 exact⟨h5,by omega⟩
theorem zcr {ss:List Sys} {p:Aut}(hss:zA ss=true)(hp:zk p=true):zaM (zaf ss p)=true∧(zaf ss p).size<16 ^ ss.length*12:=by
 obtain⟨⟨h0,h03⟩,hv⟩:=zaK hss
 have h2:=(zl hp).2.1.2
 have h3:=prod_le (a:=free) (p:=p) hv
 have h4:free.next.length*p.next.length≤1*12:=Nat.mul_le_mul (Nat.le_refl _) h2
 have h5:zB (zaO ss [free,p])≤16 ^ ss.length*12:=Nat.le_trans h3 (Nat.mul_le_mul_left _ (by omega))
 have h6:16 ^ ss.length≤16 ^ 3:=Nat.pow_le_pow_right (by omega) h03
 have h7:16 ^ ss.length*12≤4096*12:=Nat.mul_le_mul_right _ h6
 obtain⟨h8,h9⟩:=vioW_word hv zcZ hp (by omega)
 unfold zaf
 rw [if_pos (by unfold zcd;rw [hss,hp];rfl)]
 exact⟨h8,by omega⟩
end Go.Proofs.YtcfchopfijalpaaGreatDoor
