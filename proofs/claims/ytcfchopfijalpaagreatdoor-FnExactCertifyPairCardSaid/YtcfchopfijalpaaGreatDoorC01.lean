/- Plain lemmas -/
import Derived.WalkKit
import Derived.WalkSpells
import Derived.WalkLawsBesides
import Derived.BigQuiet
import Derived.Deep.QuietTactic
import Derived.Deep.RegionWith
import Derived.Deep.RegionHeld3
import Derived.Deep.AppendLies
import Derived.Deep.Draws
import Derived.Laws.OwnMore
import Derived.Laws.BitsAllLaws
import Derived.Laws.BitsLemmas
import Derived.Maps.AppendAt
import Derived.Test.YtcfchopfijalpaaGreatDoorRows
import Derived.ProofKit
import Derived.Deep.Slices
import Derived.Deep.Fields
import Derived.ChangeSame
import Derived.ChangeArms
import Derived.Lib.SmallJoins
import Derived.OpenShut
import Derived.ShutString
import Derived.ChangeOld
import Derived.OrdersHeld
import Derived.Lib.TrailingZeros
import Derived.Shelf.Spec.TrailingZeros
import Derived.Lib.LaidTab
import Derived.LaidMore
import Derived.Stop.Joined
import Derived.Stop.LaidErr
import Derived.Maps.OwnSet
import Derived.Maps.OwnOps
set_option maxHeartbeats 1000000
set_option maxRecDepth 100000
namespace Go.Proofs.YtcfchopfijalpaaGreatDoor
open Go Go.RowKit
theorem za {p:Prop}(h:p):Hid p:=h
structure Bx (p:Prop):Prop where
 out:p
theorem pT {A B:Prop}(h:B) (k:Bx B→A:=by
 intro h0
 try simp only [Act.put,List.setIfInBounds_toArray,List.set_cons_zero,List.set_cons_succ]
 exact h0.out):A:=k ⟨h⟩
theorem zfo (a:Addr) (n:Nat):(a.add n).block=a.block:=by unfold Addr.add;split<;>rfl
theorem addr_add (a:Addr) (i j:Nat):(a.add i).add j=a.add (i+j):=by
 unfold Addr.add
 by_cases hi:i=0<;>by_cases hj:j=0<;>simp [hi,hj,Nat.add_assoc]
theorem addr_zero (a:Addr):a.add 0=a:=by simp [Addr.add]
theorem zaE (g o n:Nat):(⟨g,o,none⟩:Addr).add n=⟨g,o+n,none⟩:=by unfold Addr.add;split<;>simp_all
structure Frm (S:Nat→Prop) (w w':World):Prop where
 os:w'.os=w.os
 tape:w'.tape=w.tape
 output:w'.output=w.output
 size:w.heap.size≤w'.heap.size
 block:∀ k,k<w.heap.size→¬ S k→w'.heap[k]?=w.heap[k]?
def Ext (w w':World):Prop:=Frm (fun _=>False) w w'
theorem Ext.refl (w:World):Ext w w:=⟨rfl,rfl,rfl,Nat.le_refl _,fun _ _ _=>rfl⟩
theorem Ext.trans {a b c:World}(h:Ext a b) (k:Ext b c):Ext a c:=
 ⟨k.os.trans h.os,k.tape.trans h.tape,k.output.trans h.output,Nat.le_trans h.size k.size,fun i hi hn=>(k.block i (Nat.lt_of_lt_of_le hi h.size) hn).trans (h.block i hi hn)⟩
theorem Ext.drew {a w:World}(h:Ext a w):Ext a w.drew:=⟨h.os,h.tape,h.output,h.size,h.block⟩
theorem Ext.drewN {a w:World}(h:Ext a w) (n:Nat):Ext a (w.drewN n):=⟨h.os,h.tape,h.output,h.size,h.block⟩
theorem Ext.alloc {a w:World}(h:Ext a w) (o:Obj):Ext a (w.alloc o):=
 h.trans ⟨rfl,rfl,rfl,by simp,fun k hk _=>Below.heap_alloc _ _ _ hk⟩
theorem Ext.setCell {a w:World}(h:Ext a w) {p:Addr}(hp:a.heap.size≤p.block) (u:Value):Ext a (w.setCell p u):=
 ⟨h.os,h.tape,h.output,by simpa [World.setCell] using h.size,fun k hk hn=>(Below.heap_setCell _ _ _ _ (by omega)).trans (h.block k hk hn)⟩
theorem Ext.grown {a w w':World} {row:Option Nat}(h:Ext a w)(hg:w.grownBy w' row)(hr:∀ k,row=some k→a.heap.size≤k):Ext a w':=
 ⟨hg.os.trans h.os,hg.tape.trans h.tape,hg.output.trans h.output,Nat.le_trans h.size hg.size,
  fun k hk hn=>(hg.block k (Nat.lt_of_lt_of_le hk h.size) (fun e=>by have:=hr k e.symm;omega)).trans (h.block k hk hn)⟩
theorem Ext.heap {w w':World}(h:Ext w w') {k:Nat}(hk:k<w.heap.size):w'.heap[k]?=w.heap[k]?:=h.block k hk id
theorem Ext.cell {w w':World}(h:Ext w w') {p:Addr}(hp:p.block<w.heap.size):w'.cell? p=w.cell? p:=World.cell?_of_block (w:=w) (h.heap hp)
theorem Ext.cell_some {w w':World}(h:Ext w w') {p:Addr} {v:Value}(hv:w.cell? p=some v):w'.cell? p=some v:=
 (h.cell (World.block_lt_of_cell? w p hv)).trans hv
def Blk (w:World) (g:Nat) (t:TypeId) (cs:Array Value):Prop:=w.heap[g]?=some (.cells cs t (0,0))
section
variable {w w':World} {g:Nat} {t:TypeId} {cs:Array Value}
theorem Blk.lt (h:Blk w g t cs):g<w.heap.size:=by
 rcases Nat.lt_or_ge g w.heap.size with hlt|hge
 ·exact hlt
 ·unfold Blk at h;rw [Array.getElem?_eq_none hge] at h;cases h
theorem Blk.cell (h:Blk w g t cs) (i:Nat):w.cell? ⟨g,i,none⟩=cs[i]?:=cell_of_row w g i cs t (0,0) h
theorem Blk.frozen (h:Blk w g t cs) (i:Nat):w.frozen? ⟨g,i,none⟩=false:=by
 unfold Blk at h
 simp [World.frozen?,h]
theorem Blk.new (w:World) (t:TypeId) (cs:Array Value):Blk (w.alloc (.cells cs t)) w.heap.size t cs:=heap_alloc_new w _
theorem Blk.ext (h:Blk w g t cs)(hb:Ext w w'):Blk w' g t cs:=(hb.heap h.lt).trans h
theorem Blk.cells (h:Blk w g t cs):∀ W,Ext w W→∀ i,W.cell? ⟨g,i,none⟩=cs[i]?:=fun _ hW=>(h.ext hW).cell
theorem Blk.frm {S:Nat→Prop}(h:Blk w g t cs)(hb:Frm S w w')(hg:¬ S g):Blk w' g t cs:=(hb.block g h.lt hg).trans h
theorem Blk.set_ (h:Blk w g t cs) (i:Nat) (u:Value):Blk (w.setCell ⟨g,i,none⟩ u) g t (cs.setIfInBounds i u):=by
 unfold Blk at h ⊢
 simp [World.setCell,Array.getElem?_modify,h]
end
theorem zdS {w w':World} {cs:Array Value} {t:TypeId}(h:Ext (w.alloc (.cells cs t)) w'):Blk w' w.heap.size t cs:=(Blk.new w t cs).ext h
theorem zE {w w':World} {cs ds:Array Value} {t u:TypeId}(h:Ext ((w.alloc (.cells cs t)).alloc (.cells ds u)) w'):Blk w' w.heap.size t cs∧Blk w' (w.heap.size+1) u ds:=by
 refine⟨zdS (((Ext.refl _).alloc _).trans h),?_⟩
 have:=zdS h
 simpa using this
theorem zK {w w':World} {cs ds es:Array Value} {t u v:TypeId}(h:Ext (((w.alloc (.cells cs t)).alloc (.cells ds u)).alloc (.cells es v)) w'):Blk w' w.heap.size t cs∧Blk w' (w.heap.size+1) u ds∧Blk w' (w.heap.size+1+1) v es:=by
 have h2:=zE (((Ext.refl _).alloc _).trans h)
 refine⟨h2.1,h2.2,?_⟩
 have:=zdS h
 simpa using this
theorem Blk.far {w:World} {g:Nat} {t:TypeId} {cs:Array Value}(h:Blk w g t cs) {p:Addr}(hp:g≠p.block) (u:Value):Blk (w.setCell p u) g t cs:=(Below.heap_setCell w p u g hp).trans h
theorem zct {w w':World} {cs:Array Value} {t:TypeId}(h:Ext (w.alloc (.cells cs t)) w'):∀ j,w'.cell? ⟨w.heap.size,j,none⟩=cs[j]?:=(zdS h).cell
def Reads (w:World) (lo hi size:Nat) (A:Option Addr) (n:Nat) (xs:List Value):Prop:=
 xs.length=n*size∧n≤9223372036854775807∧(0<n→∃ ad,A=some ad∧lo≤ad.block∧ad.block<hi∧∀ j u,xs[j]?=some u→w.cell? (ad.add j)=some u)
section
variable {w w':World} {lo hi size n:Nat} {A:Option Addr} {xs:List Value}
theorem Reads.nil:Reads w lo hi size A 0 []:=⟨by simp,by omega,fun h=>absurd h (by omega)⟩
theorem Reads.len (h:Reads w lo hi size A n xs):n≤9223372036854775807:=h.2.1
theorem Reads.length (h:Reads w lo hi size A n xs):xs.length=n*size:=h.1
theorem Reads.at_ {k:Nat}(h:Reads w lo hi size A n xs)(hk:k<n):∃ ad,A=some ad∧lo≤ad.block∧ad.block<hi∧∀ j u,xs[j]?=some u→w.cell? (ad.add j)=some u:=h.2.2 (by omega)
theorem Reads.one {k:Nat}(h:Reads w lo hi 1 A n xs)(hk:k<n):∃ ad u,A=some ad∧lo≤ad.block∧ad.block<hi∧Hid (xs[k]?=some u)∧w.cell? (ad.add k)=some u:=by
 obtain⟨ad,e,hl,hb,hc⟩:=h.2.2 (by omega)
 have hx:k<xs.length:=by have:=h.1;omega
 exact⟨ad,xs[k],e,hl,hb,List.getElem?_eq_getElem hx,hc k _ (List.getElem?_eq_getElem hx)⟩
theorem Reads.more {lo' hi':Nat}(h:Reads w lo hi size A n xs)(hL:lo'≤lo)(hH:hi≤hi'):Reads w lo' hi' size A n xs:=
 ⟨h.1,h.2.1,fun hn=>by
  obtain⟨ad,e,hl,hb,hc⟩:=h.2.2 hn
  exact⟨ad,e,by omega,by omega,hc⟩⟩
theorem Reads.ext (h:Reads w lo hi size A n xs)(hb:Ext w w'):Reads w' lo hi size A n xs:=
 ⟨h.1,h.2.1,fun hn=>by
  obtain⟨ad,e,hl,hi,hc⟩:=h.2.2 hn
  exact⟨ad,e,hl,hi,fun j u hu=>hb.cell_some (hc j u hu)⟩⟩
theorem Reads.frm {S:Nat→Prop}(h:Reads w lo hi size A n xs)(hb:Frm S w w')(hS:∀ k,lo≤k→k<hi→¬ S k):Reads w' lo hi size A n xs:=
 ⟨h.1,h.2.1,fun hn=>by
  obtain⟨ad,e,hl,hi,hc⟩:=h.2.2 hn
  refine⟨ad,e,hl,hi,fun j u hu=>?_⟩
  have hcell:=hc j u hu
  have hlt:=World.block_lt_of_cell? w _ hcell
  exact (World.cell?_of_block (w:=w) (hb.block _ hlt (by rw [zfo];exact hS _ hl hi))).trans hcell⟩
theorem Reads.of_own {base:Nat} {e:TypeId} {c:Nat}(h:w.ownsRow base e size (.slice A n c) n xs):Reads w base w.heap.size size A n xs:=by
 rcases h.2 with ⟨h',h0⟩|⟨g,cap,cur,hv,hb,hg,hnc,hcm,_,htake⟩
 ·subst h0
  have hx:xs=[]:=List.eq_nil_of_length_eq_zero (by simpa using h.1)
  subst hx
  exact Reads.nil
 ·have hA:A=some ⟨g,0,none⟩:=by injection hv
  subst hA
  exact⟨h.1,by unfold maxLen at hcm;omega,fun _=>⟨_,rfl,hb,(Array.getElem?_eq_some_iff.1 hg).1,h.cells (g:=g) rfl⟩⟩
end
theorem zak {P:Program} (wb w:World) {ops:Array Oper} {rest:List Oper} {o:Oper} {a:Act} {Q:Exit→Act→World→Prop}(hgd:o.guard=none) (s x:Operand) (t:TypeId)
  (ho:o.op=.call { callee:=.builtin .append,args:=#[s,x],argTypes:=#[t,t] })
  (e:TypeId) (z:Value) (size bytes:Nat) (ht:P.underlying t=some (.slice e)) (hi:(P.info? e).map (fun i=>(i.zero,i.size,i.bytes))=some (some z,size,bytes)) (hzs:z.cells.size=size) (hsz:0<size)
  (v:Value) (n:Nat) (xs:List Value) (us:Array Value) (e':TypeId) (hs:a.eval s=v) (hx:a.eval x=.slice (some ⟨w.heap.size,0,none⟩) 1 1)
  (ziL:Ext wb w) (ziJ:w.ownsRow wb.heap.size e size v n xs) (hus:us.size=size) (h1:∀ u∈us.toList,u.oneCell'=true)
  (h63:n+1≤maxLen) (hbytes:(n+1)*bytes≤140737488355328)
  (h:∀ v' w',Ext wb w'→w'.ownsRow wb.heap.size e size v' (n+1) (xs++us.toList)→w.grownBy w' v.ownBlock→(v'.ownBlock=v.ownBlock∨v'.ownBlock=some (w.heap.size+1))→wpList P ops Q rest (a.put o.dst v') w') :
  wpList P ops Q (o :: rest) a (w.alloc (.cells us e')):=by
 obtain⟨i,hi0,hz0,hz1,hz2⟩:=info_parts hi
 refine wpList_append_own_at (w.alloc (.cells us e')) hgd s x t ho wb.heap.size e i z size bytes ht hi0 hz0 hz1 hz2 hzs hsz v n xs hs (ziJ.alloc _) ⟨w.heap.size,0,none⟩ 1 1 us.toList hx (by simpa using hus) ?_ h1 h63 hbytes (by have:=ziL.size;simp;omega) ?_
 ·intro j u hu
  rw [zaE,Nat.zero_add,(Blk.new w e' us).cell]
  simpa using hu
 ·intro v' w' hown' hg _ hat
  have hg':w.grownBy w' v.ownBlock:=⟨hg.os,hg.tape,hg.output,Nat.le_trans (by simp) hg.size,fun k hk hne=>(hg.block k (by simp;omega) hne).trans (Below.heap_alloc w _ k hk)⟩
  exact h v' w' (ziL.grown hg' (fun k hk=>(ziJ.lt k hk).1)) hown' hg' (by simpa using hat)
theorem zar {P:Program} (wb w:World) {ops:Array Oper} {rest:List Oper} {o:Oper} {a:Act} {Q:Exit→Act→World→Prop}(hgd:o.guard=none) (l c:Operand) (t:TypeId)(ho:o.op=.makeSlice t l c)
  (e:TypeId) (z:Value) (size bytes:Nat) (ht:P.underlying t=some (.slice e)) (hi:(P.info? e).map (fun i=>(i.zero,i.size,i.bytes))=some (some z,size,bytes))
  (kl kc:IntKind) (n:Nat) (hl:a.eval l=.int kl (n:Int)) (hc:a.eval c=.int kc (n:Int)) (ziL:Ext wb w) (hbytes:n*bytes≤140737488355328) (h63:n≤maxLen)
  (h:∀ w',Ext wb w'→w'.ownsRow wb.heap.size e size (.slice (some ⟨w.heap.size,0,none⟩) n n) n (madeCells z.cells (n*size)).toList→Ext w w'→w.heap.size<w'.heap.size→wpList P ops Q rest (a.put o.dst (.slice (some ⟨w.heap.size,0,none⟩) n n)) w') :
  wpList P ops Q (o :: rest) a w:=by
 obtain⟨i,hi0,hz0,hz1,hz2⟩:=info_parts hi
 refine wpList_make_full w hgd l c t ho wb.heap.size e i z size ht hi0 hz0 hz1 kl kc n n n hl hc rfl rfl (by rw [hz2,Nat.mul_comm];omega) h63 ziL.size ?_
 intro w' ziJ hg
 refine h w' (ziL.grown hg (by simp)) ziJ ((Ext.refl _).grown hg (by simp)) ?_
 rcases ziJ.2 with ⟨h',_⟩|⟨g,cap,cur,h',_,hh,_⟩
 ·simp at h'
 ·have:w.heap.size=g:=by injection h' with h1;injection h1 with h1;injection h1
  subst this
  exact (Array.getElem?_eq_some_iff.1 hh).1
theorem zi {w:World} {base:Nat} {e:TypeId} {size:Nat} {v:Value} {n:Nat} {xs:List Value}(h:w.ownsRow base e size v n xs):∃ A c,v=.slice A n c:=by
 rcases h.2 with ⟨rfl,h0⟩|⟨g,cap,cur,rfl,_⟩
 ·exact⟨none,0,by rw [h0]⟩
 ·exact⟨_,_,rfl⟩
theorem zaR (n:Int):∀ u∈(#[Value.int .i64 n]:Array Value).toList,u.oneCell'=true:=by simp [Value.oneCell']
theorem zhU (n:Int):∀ u∈(#[Value.int .u8 n]:Array Value).toList,u.oneCell'=true:=by simp [Value.oneCell']
theorem zbS (A:Option Addr) (n c:Nat):∀ u∈(#[Value.slice A n c]:Array Value).toList,u.oneCell'=true:=by simp [Value.oneCell']
def ints (l:List Int):List Value:=l.map (Value.int .i64)
theorem zbU (l:List Int):(ints l).length=l.length:=by simp [ints]
def zP (l:List Bool):List Value:=l.map Value.bool
theorem zaH (l:List Bool):(zP l).length=l.length:=by simp [zP]
theorem ints_get {l:List Int} {k:Nat} {u:Value}(h:(ints l)[k]?=some u):∃ n,l[k]?=some n∧u=.int .i64 n:=by
 simp only [ints,List.getElem?_map,Option.map_eq_some_iff] at h
 obtain⟨n,hn,rfl⟩:=h
 exact⟨n,hn,rfl⟩
theorem bools_get {l:List Bool} {k:Nat} {u:Value}(h:(zP l)[k]?=some u):∃ n,l[k]?=some n∧u=.bool n:=by
 simp only [zP,List.getElem?_map,Option.map_eq_some_iff] at h
 obtain⟨n,hn,rfl⟩:=h
 exact⟨n,hn,rfl⟩
theorem Reads.int {w:World} {lo hi n k:Nat} {A:Option Addr} {l:List Int}(h:Reads w lo hi 1 A n (ints l))(hk:k<n):∃ ad x,A=some ad∧lo≤ad.block∧ad.block<hi∧Hid (l[k]?=some x)∧w.cell? (ad.add k)=some (.int .i64 x):=by
 obtain⟨ad,u,e,hl,hb,hx,hc⟩:=h.one hk
 obtain⟨x,hx',rfl⟩:=ints_get hx.out
 exact⟨ad,x,e,hl,hb,hx',hc⟩
theorem Reads.bool {w:World} {lo hi n k:Nat} {A:Option Addr} {l:List Bool}(h:Reads w lo hi 1 A n (zP l))(hk:k<n):∃ ad x,A=some ad∧lo≤ad.block∧ad.block<hi∧Hid (l[k]?=some x)∧w.cell? (ad.add k)=some (.bool x):=by
 obtain⟨ad,u,e,hl,hb,hx,hc⟩:=h.one hk
 obtain⟨x,hx',rfl⟩:=bools_get hx.out
 exact⟨ad,x,e,hl,hb,hx',hc⟩
def zdC (w:World) (lo hi:Nat) (rows:List Value) (ls:List (List Int)):Prop:=
 rows.length=ls.length∧∀ (i:Nat) (row:Value) (l:List Int),rows[i]?=some row→ls[i]?=some l→∃ A c,row=.slice A l.length c∧Reads w lo hi 1 A l.length (ints l)
def zaw (w:World) (lo hi:Nat) (A:Option Addr) (n:Nat) (ls:List (List Int)):Prop:=
 n=ls.length∧∃ rows,Reads w lo hi 1 A n rows∧zdC w lo hi rows ls
section
variable {w w':World} {lo hi n k:Nat} {A:Option Addr} {ls:List (List Int)} {rows:List Value}
theorem zdC.ext (h:zdC w lo hi rows ls)(hb:Ext w w'):zdC w' lo hi rows ls:=
 ⟨h.1,fun i row l hr hl=>by
  obtain⟨A,c,e,hx⟩:=h.2 i row l hr hl
  exact⟨A,c,e,hx.ext hb⟩⟩
theorem zaw.ext (h:zaw w lo hi A n ls)(hb:Ext w w'):zaw w' lo hi A n ls:=by
 obtain⟨e,rows,hr,hx⟩:=h
 exact⟨e,rows,hr.ext hb,hx.ext hb⟩
theorem zdC.frm {S:Nat→Prop}(h:zdC w lo hi rows ls)(hb:Frm S w w')(hS:∀ k,lo≤k→k<hi→¬ S k):zdC w' lo hi rows ls:=
 ⟨h.1,fun i row l hr hl=>by
  obtain⟨A,c,e,hx⟩:=h.2 i row l hr hl
  exact⟨A,c,e,hx.frm hb hS⟩⟩
theorem zaw.frm {S:Nat→Prop}(h:zaw w lo hi A n ls)(hb:Frm S w w')(hS:∀ k,lo≤k→k<hi→¬ S k):zaw w' lo hi A n ls:=by
 obtain⟨e,rows,hr,hx⟩:=h
 exact⟨e,rows,hr.frm hb hS,hx.frm hb hS⟩
theorem zdC.more {lo' hi':Nat}(h:zdC w lo hi rows ls)(hL:lo'≤lo)(hH:hi≤hi'):zdC w lo' hi' rows ls:=
 ⟨h.1,fun i row l hr hl=>by
  obtain⟨A,c,e,hx⟩:=h.2 i row l hr hl
  exact⟨A,c,e,hx.more hL hH⟩⟩
theorem zaw.more {lo' hi':Nat}(h:zaw w lo hi A n ls)(hL:lo'≤lo)(hH:hi≤hi'):zaw w lo' hi' A n ls:=by
 obtain⟨e,rows,hr,hx⟩:=h
 exact⟨e,rows,hr.more hL hH,hx.more hL hH⟩
theorem zaw.len (h:zaw w lo hi A n ls):n≤9223372036854775807:=by
 obtain⟨_,rows,hr,_⟩:=h
 exact hr.len
theorem zaw.row (h:zaw w lo hi A n ls)(hk:k<n):∃ ad Ak ck l,A=some ad∧lo≤ad.block∧ad.block<hi∧Hid (ls[k]?=some l)∧w.cell? (ad.add k)=some (.slice Ak l.length ck)∧Reads w lo hi 1 Ak l.length (ints l):=by
 obtain⟨e,rows,hr,hx⟩:=h
 obtain⟨ad,u,eA,hl,hb,hu,hc⟩:=hr.one hk
 have hlt:k<ls.length:=by omega
 obtain⟨Ak,ck,rfl,hrk⟩:=hx.2 k u ls[k] hu.out (List.getElem?_eq_getElem hlt)
 exact⟨ad,Ak,ck,ls[k],eA,hl,hb,List.getElem?_eq_getElem hlt,hc,hrk⟩
end
section
variable {w w':World} {base base' size size' n n':Nat} {e e':TypeId} {v v':Value} {xs xs':List Value}
theorem zh (h:w.ownsRow base e size v n xs)(hb:Ext w w'):w'.ownsRow base e size v n xs:=by
 refine⟨h.1,?_⟩
 rcases h.2 with hn|⟨g,cap,cur,hv,hg,hh,r⟩
 ·exact .inl hn
 ·exact .inr ⟨g,cap,cur,hv,hg,(hb.heap (Array.getElem?_eq_some_iff.1 hh).1).trans hh,r⟩
theorem zg {S:Nat→Prop}(h:w.ownsRow base e size v n xs)(hb:Frm S w w')(hS:∀ b,v.ownBlock=some b→¬ S b):w'.ownsRow base e size v n xs:=by
 refine⟨h.1,?_⟩
 rcases h.2 with hn|⟨g,cap,cur,hv,hg,hh,r⟩
 ·exact .inl hn
 ·exact .inr ⟨g,cap,cur,hv,hg,(hb.block g (Array.getElem?_eq_some_iff.1 hh).1 (hS g (by rw [hv];rfl))).trans hh,r⟩
theorem zcn {S:Nat→Prop}(h:w.ownsRow base e size v n xs)(hb:Frm S w w')(hS:∀ b,base≤b→¬ S b):w'.ownsRow base e size v n xs:=zg h hb fun b hv=>hS b (h.lt b hv).1
theorem zq (h:w.ownsRow base e size v n xs)(hb:base'≤base):w.ownsRow base' e size v n xs:=by
 refine⟨h.1,?_⟩
 rcases h.2 with hn|⟨g,cap,cur,hv,hg,r⟩
 ·exact .inl hn
 ·exact .inr ⟨g,cap,cur,hv,by omega,r⟩
theorem zaX (h:w.ownsRow base e size v n xs)(h':w.ownsRow base' e' size' v' n' xs')(hne:e≠e') {b:Nat}(hb:v.ownBlock=some b):v'.ownBlock≠some b:=by
 rcases h.2 with ⟨rfl,_⟩|⟨g,cap,cur,rfl,_,hh,_⟩
 ·simp [Value.ownBlock] at hb
 ·rcases h'.2 with ⟨rfl,_⟩|⟨g',cap',cur',rfl,_,hh',_⟩
  ·simp [Value.ownBlock]
  ·have hb1:g=b:=by simpa [Value.ownBlock] using hb
   subst hb1
   intro he
   have hg:g'=g:=by simpa [Value.ownBlock] using he
   subst hg
   rw [hh] at hh'
   injection hh' with hh'
   injection hh' with _ ht
   exact hne ht
theorem zau {g n cap:Nat}(h:w.ownsRow base e size (.slice (some ⟨g,0,none⟩) n cap) n xs) (j:Nat)(hj:j<n*size):∃ u,w.cell? ⟨g,j,none⟩=some u:=by
 have hx:j<xs.length:=by rw [h.1];exact hj
 exact⟨xs[j],by rw [h.cellAt j hj,List.getElem?_eq_getElem hx]⟩
theorem zcS (h:w.ownsRow base e size v n xs):xs.length=n*size:=h.1
end
theorem Ext.toFrm {w w':World} {S:Nat→Prop}(h:Ext w w'):Frm S w w':=⟨h.os,h.tape,h.output,h.size,fun k hk _=>h.block k hk id⟩
theorem Frm.of_grown {w w':World} {row:Option Nat}(h:w.grownBy w' row):Frm (fun k=>row=some k) w w':=
 ⟨h.os,h.tape,h.output,h.size,fun k hk hn=>h.block k hk (fun e=>hn e.symm)⟩
theorem Frm.setCell (w:World) (g j:Nat) (u:Value):Frm (fun k=>k=g) w (w.setCell ⟨g,j,none⟩ u):=
 ⟨rfl,rfl,rfl,by simp [World.setCell],fun k _ hn=>Below.heap_setCell _ _ _ _ hn⟩
theorem Frm.trans {S:Nat→Prop} {a b c:World}(h:Frm S a b) (k:Frm S b c):Frm S a c:=
 ⟨k.os.trans h.os,k.tape.trans h.tape,k.output.trans h.output,Nat.le_trans h.size k.size,fun i hi hn=>(k.block i (Nat.lt_of_lt_of_le hi h.size) hn).trans (h.block i hi hn)⟩
theorem Frm.mono {S T:Nat→Prop} {a b:World}(h:Frm S a b)(hS:∀ k,k<a.heap.size→S k→T k):Frm T a b:=
 ⟨h.os,h.tape,h.output,h.size,fun k hk hn=>h.block k hk (fun hs=>hn (hS k hk hs))⟩
theorem Frm.refl (S:Nat→Prop) (w:World):Frm S w w:=⟨rfl,rfl,rfl,Nat.le_refl _,fun _ _ _=>rfl⟩
theorem Frm.cell {S:Nat→Prop} {a w:World}(h:Frm S a w) {p:Addr}(hp:S p.block) (u:Value):Frm S a (w.setCell p u):=
 ⟨h.os,h.tape,h.output,by simpa [World.setCell] using h.size,fun k hk hn=>(Below.heap_setCell _ _ _ _ (by rintro rfl;exact hn hp)).trans (h.block k hk hn)⟩
theorem Frm.ext {S:Nat→Prop} {a w w':World}(h:Frm S a w)(hb:Ext w w'):Frm S a w':=h.trans hb.toFrm
theorem Ext.frm {S:Nat→Prop} {a b c:World}(h:Ext a b) (k:Frm S b c)(hS:∀ k,k<a.heap.size→¬ S k):Ext a c:=
 ⟨k.os.trans h.os,k.tape.trans h.tape,k.output.trans h.output,Nat.le_trans h.size k.size,fun i hi hn=>(k.block i (Nat.lt_of_lt_of_le hi h.size) (hS i hi)).trans (h.block i hi hn)⟩
theorem set_end {xs rest:List Value} {k:Nat} (u:Value)(hk:xs.length=k)(hr:0<rest.length):(xs++rest).set k u=(xs++[u])++rest.tail:=by
 subst hk
 rw [List.set_append_right _ _ (by omega),Nat.sub_self]
 cases rest with
 |nil=>simp at hr
 |cons r rs=>simp
section
variable {α:Type} {l:List α} {p:α→Bool} {k:Nat} {x:α}
theorem zat (h:l[k]?=some x)(hp:p x=false):l.all p=false:=
 List.all_eq_false.2 ⟨x,List.mem_of_getElem? h,by simp [hp]⟩
theorem zbZ (h:l[k]?=some x)(hk:(l.take k).all p=true)(hp:p x=true):(l.take (k+1)).all p=true:=by
 rw [List.take_add_one,h,List.all_append,hk]
 simp [hp]
theorem zdD (hk:l.length≤k)(h:(l.take k).all p=true):l.all p=true:=by
 rwa [List.take_of_length_le hk] at h
end
theorem set_mix {vals rest:List Value} {k:Nat} {u:Value}(hu:vals[k]?=some u)(hr:rest.length=vals.length - k):(vals.take k++rest).set k u=vals.take (k+1)++rest.tail:=by
 have hk:k<vals.length:=by
  rcases Nat.lt_or_ge k vals.length with h|h
  ·exact h
  ·rw [List.getElem?_eq_none h] at hu;cases hu
 have hl:(vals.take k).length=k:=by simp;omega
 rw [List.set_append_right _ _ (by omega),hl,Nat.sub_self,List.take_add_one,hu]
 cases rest with
 |nil=>simp at hr;omega
 |cons r rs=>simp
def Sm (n:Nat):Prop:=n<4294967296
theorem Sm.lt {n:Nat}(h:Sm n):n<4294967296:=h
theorem Sm.or {a b:Nat}(ha:Sm a)(hb:Sm b):Sm (a|||b):=Nat.or_lt_two_pow (n:=32) ha hb
theorem Sm.and_left {a:Nat} (b:Nat)(ha:Sm a):Sm (a&&&b):=Nat.lt_of_le_of_lt Nat.and_le_left ha
theorem Sm.bit {n:Nat}(h:n<32):Sm (2 ^ n):=Nat.pow_lt_pow_right (by omega) h
theorem zda (a:Nat)(ha:a<9223372036854775808):(BitVec.ofInt 64 (a:Int)).toNat=a:=by
 rw [BitVec.ofInt_natCast,BitVec.toNat_ofNat];exact Nat.mod_eq_of_lt (by omega)
theorem zdo {a b:Nat}(ha:Sm a)(hb:Sm b):bits .and .i64 (a:Int) (b:Int)=((a&&&b:Nat):Int):=by
 have hx:=(Sm.and_left b ha).lt
 have:=ha.lt;have:=hb.lt
 show IntKind.i64.wrap ((BitVec.ofInt 64 (a:Int)&&&BitVec.ofInt 64 (b:Int)).toNat:Int)=_
 rw [BitVec.toNat_and,zda a (by omega),zda b (by omega),IntKind.wrap_i64]
 omega
theorem zbR {a b:Nat}(ha:Sm a)(hb:Sm b):bits .or .i64 (a:Int) (b:Int)=((a|||b:Nat):Int):=by
 have hx:=(Sm.or ha hb).lt
 have:=ha.lt;have:=hb.lt
 show IntKind.i64.wrap ((BitVec.ofInt 64 (a:Int)|||BitVec.ofInt 64 (b:Int)).toNat:Int)=_
 rw [BitVec.toNat_or,zda a (by omega),zda b (by omega),IntKind.wrap_i64]
 omega
theorem and_one {x:Nat}(hx:Sm x):bits .and .i64 (x:Int) 1=((x % 2:Nat):Int):=by
 have:=zdo hx (b:=1) (by unfold Sm;omega)
 rw [nat_mask1] at this
 exact this
theorem div_pow (x n:Nat):(x:Int) / 2 ^ n=((x / 2 ^ n:Nat):Int):=by simp
theorem zfi {x n:Nat}(hx:Sm x)(hn:32≤n):x.testBit n=false:=
 Nat.testBit_lt_two_pow (Nat.lt_of_lt_of_le hx.lt (by rw [show (4294967296:Nat)=2 ^ 32 from rfl];exact Nat.pow_le_pow_right (by omega) hn))
theorem zgI {x:Nat}(hx:Sm x) (n:Nat):(bits .and .i64 ((x:Int) / 2 ^ min n 64) 1==1)=x.testBit n:=by
 rw [div_pow,and_one (Nat.lt_of_le_of_lt (Nat.div_le_self _ _) hx)]
 by_cases hn:n≤64
 ·rw [Nat.min_eq_left hn,Nat.testBit_eq_decide_div_mod_eq]
  rw [Bool.eq_iff_iff]
  simp only [beq_iff_eq,decide_eq_true_eq]
  omega
 ·rw [Nat.min_eq_right (by omega),zfi hx (by omega)]
  have:x / 2 ^ 64=0:=Nat.div_eq_of_lt (Nat.lt_trans hx.lt (by decide))
  rw [this];decide
def hasB (s:Nat) (n:Int):Bool:=decide (0≤n)&&s.testBit n.toNat
def letters (a k:Nat):List Nat:=(List.range k).filter fun l=>a.testBit l
theorem zaW (a k:Nat):letters a (k+1)=letters a k++if a.testBit k then [k] else []:=by
 unfold letters
 rw [List.range_succ,List.filter_append]
 cases h:a.testBit k<;>simp [h]
theorem zI (a k:Nat):(letters a k).length≤k:=by
 unfold letters
 have:=List.length_filter_le (fun l=>a.testBit l) (List.range k)
 simpa using this
def zS (l:List Nat):List Value:=l.map fun n:Nat=>Value.int .i64 (n:Int)
theorem zgA (l:List Nat):(zS l).length=l.length:=by simp [zS]
theorem nats_append (l m:List Nat):zS (l++m)=zS l++zS m:=by simp [zS]
theorem zR (a:Int) (w:World) :
  Calls Tryz.prog 173 #[.int .i64 a] w fun e w'=>e=.returned (.bool (decide (0≤a∧a≤63)))∧w=w':=by
 by_cases h0:0≤a
 ·go_enter Tryz.func173,Tryz.ntmps173
  go_wp2
  go_ret
  exact⟨by simp [h0],rfl⟩
 ·go_enter Tryz.func173,Tryz.ntmps173
  go_wp2
  go_ret
  exact⟨by simp;omega,rfl⟩
theorem zT (a:Int) (w:World) :
  Calls Tryz.prog 139 #[.int .i64 a] w fun e w'=>e=.returned (.bool (decide (0≤a∧a≤63)))∧w=w':=by
 by_cases h0:0≤a
 ·go_enter Tryz.func139,Tryz.ntmps139
  go_wp2
  go_ret
  exact⟨by simp [h0],rfl⟩
 ·go_enter Tryz.func139,Tryz.ntmps139
  go_wp2
  go_ret
  exact⟨by simp;omega,rfl⟩
theorem zhT (s:ByteArray) (i:Nat)(h:i<s.size):(s[i].toNat:Int)<256:=by
 have:=s[i].toNat_lt
 omega
def ltr (b:Int):Int:=if b - 97<0∨6≤b - 97 then -1 else b - 97
theorem zj {a b:Bool}(h:a=b):Ending.returned (.bool a)=.returned (.bool b):=by rw [h]
theorem zG {k:IntKind} {a b:Int}(h:a=b):Ending.returned (.int k a)=.returned (.int k b):=by rw [h]
theorem zaJ (s:ByteArray) (i:Nat)(hi:i<s.size) (w:World) :
  Calls Tryz.prog 153 #[.string s,.int .i64 i] w fun e w'=>e=.returned (.int .i64 (ltr s[i].toNat))∧w=w':=by
 have hb:=zhT s i hi
 by_cases h0:(s[i].toNat:Int) - 97<0
 ·go_enter Tryz.func153,Tryz.ntmps153
  go_wp2
  go_ret
  exact⟨zG (by rw [ltr,if_pos (Or.inl h0)]),rfl⟩
 ·by_cases h1:6≤(s[i].toNat:Int) - 97
  ·go_enter Tryz.func153,Tryz.ntmps153
   go_wp2
   go_ret
   exact⟨zG (by rw [ltr,if_pos (Or.inr h1)]),rfl⟩
  ·go_enter Tryz.func153,Tryz.ntmps153
   go_wp2
   go_ret
   exact⟨zG (by rw [ltr,if_neg (by omega)]),rfl⟩
theorem zbL (s:ByteArray) (i:Nat)(hi:i<s.size) (w:World) :
  Calls Tryz.prog 141 #[.string s,.int .i64 i] w fun e w'=>e=.returned (.int .i64 (s[i].toNat - 97))∧w=w':=by
 have hb:=zhT s i hi
 go_enter Tryz.func141,Tryz.ntmps141
 go_wp2
 go_ret
 exact⟨rfl,rfl⟩
theorem zab (s n:Nat)(hs:Sm s) (w:World)(hn:n<9223372036854775808) :
  Calls Tryz.prog 140 #[.int .i64 s,.int .i64 n] w fun e w'=>e=.returned (.bool (s.testBit n))∧w=w':=by
 have hu:IntKind.u64.wrap (n:Int)=n:=by rw [IntKind.wrap_u64];omega
 have hb:=zgI hs n
 have Hb:=za hb
 clear hb
 go_enter Tryz.func140,Tryz.ntmps140
 go_wp2
 go_ret
 exact⟨by simp [Hb.out],rfl⟩
theorem zbp (s:Nat) (n:Int)(hs:Sm s) (w:World) :
  Calls Tryz.prog 161 #[.int .i64 s,.int .i64 n] w fun e w'=>e=.returned (.bool (hasB s n))∧w=w':=by
 have hb:=zgI hs n.toNat
 have Hb:=za hb
 clear hb
 by_cases h0:0≤n
 ·go_enter Tryz.func161,Tryz.ntmps161
  go_wp2
  go_ret
  exact⟨by simp [Hb.out,hasB,h0],rfl⟩
 ·go_enter Tryz.func161,Tryz.ntmps161
  go_wp2
  go_ret
  exact⟨by simp [hasB];omega,rfl⟩
theorem zah:(Tryz.prog.info? 3).map (fun i=>(i.zero,i.size,i.bytes))=some (some (.int .i64 0),1,8):=by kernel_rfl
def zbB (w:World) (xs:List Nat) (e:Ending) (w':World):Prop:=
 ∃ A c,e=.returned (.slice A xs.length c)∧w'.ownsRow w.heap.size 3 1 (.slice A xs.length c) xs.length (zS xs)∧Ext w w'
theorem zY (a:Nat)(hs:Sm a) (w:World) :
  Calls Tryz.prog 158 #[.int .i64 a] w (zbB w (letters a 6)):=by
 go_enter Tryz.func158,Tryz.ntmps158
 go_wp2
 go_loopw [3,5] (fun v i wr=>∃ k:Nat,k≤6∧i=.int .i64 k∧wr.ownsRow w.heap.size 3 1 v (letters a k).length (zS (letters a k))∧Ext w wr)
  (fun _ i _=>6 - (intOf i).toNat)
 case atStart=>exact⟨0,Nat.zero_le _,rfl,World.ownsRow_nil _ _ _ _,Ext.refl _⟩
 case round =>
  obtain⟨k,hk,rfl,ziJ,ziL⟩:=hrel
  have hl:=zI a k
  by_cases hlt:k<6
  ·cases hb:a.testBit k
   all_goals
    have Hb:hasB a k=a.testBit k:=by simp [hasB]
    rw [hb] at Hb
    have hls:=zaW a k
    rw [hb] at hls
    have Hls:=za hls
    clear hls hb
    go_wp2_with (first
     |(go_at_call 161;refine (zbp a k hs _).mono ?_;rintro e w' ⟨rfl,rfl⟩)
     |(at_builtin;refine zak w wr rfl (.tmp 11) (.tmp 13) _ rfl 3 _ 1 8 Tryz.underlying128 zah rfl (by decide) u3 _ _ _ _ rfl rfl ziL ziJ rfl (zaR _) (by unfold maxLen;omega) (by omega) ?_;intro v' w1 hext1 ziS hg1 hat1))
    go_roundw
    case rel=>exact⟨k+1,by omega,by go_num,by rw [Hls.out];first|simpa [zS] using ziS|simpa using ziJ,by assumption⟩
    case measure=>simp [intOf];omega
  ·obtain rfl:k=6:=by omega
   obtain⟨A,c,rfl⟩:=zi ziJ
   go_wp2
   go_ret
   exact⟨_,_,rfl,ziJ,ziL⟩
def leftOf (left:Int) (n:Nat):Int:=if left - n<0 then -1 else left - n
theorem leftOf_le (left:Int) (n:Nat)(h:left≤1048576):leftOf left n≤1048576:=by unfold leftOf;split<;>omega
theorem zgv (left:Int) (n:Nat):-1≤leftOf left n:=by unfold leftOf;split<;>omega
theorem zhK (A:Option Addr) (n c:Nat) (left:Int) (w:World)(hn:n≤9223372036854775807)(h0:0≤left)(h1:left≤1048576) :
  Calls Tryz.prog 118 #[.slice A n c,.int .i64 left] w fun e w'=>e=.returned (.int .i64 (leftOf left n))∧w=w':=by
 by_cases h:left - n<0
 ·go_enter Tryz.func118,Tryz.ntmps118
  go_wp2
  go_ret
  exact⟨zG (by unfold leftOf;split<;>omega),rfl⟩
 ·go_enter Tryz.func118,Tryz.ntmps118
  go_wp2
  go_ret
  exact⟨zG (by unfold leftOf;split<;>omega),rfl⟩
theorem szBoolS_any (A:Option Addr) (n c:Nat) (left:Int) (w:World)(hn:n≤9223372036854775807)(h0:0≤left)(h1:left≤1048576) :
  Calls Tryz.prog 57 #[.slice A n c,.int .i64 left] w fun e w'=>e=.returned (.int .i64 (leftOf left n))∧w=w':=by
 by_cases h:left - n<0
 ·go_enter Tryz.func57,Tryz.ntmps57
  go_wp2
  go_ret
  exact⟨zG (by unfold leftOf;split<;>omega),rfl⟩
 ·go_enter Tryz.func57,Tryz.ntmps57
  go_wp2
  go_ret
  exact⟨zG (by unfold leftOf;split<;>omega),rfl⟩
def tot (ls:List (List Int)):Nat:=(ls.map List.length).sum
theorem zbe {ls:List (List Int)} {k:Nat} {l:List Int}(h:ls[k]?=some l):tot (ls.take (k+1))=tot (ls.take k)+l.length:=by
 rw [List.take_add_one,h]
 simp [tot]
theorem tot_append (a b:List (List Int)):tot (a++b)=tot a+tot b:=by simp [tot]
theorem zbY (ls:List (List Int)) (k:Nat):tot (ls.take k)≤tot ls:=by
 have h:=tot_append (ls.take k) (ls.drop k)
 rw [List.take_append_drop] at h
 omega
theorem zgP (lo hi:Nat) (A:Option Addr) (n c:Nat) (ls:List (List Int)) (left:Int) (w:World)(h:zaw w lo hi A n ls)(h0:0≤left)(h1:left≤1048576) :
  Calls Tryz.prog 56 #[.slice A n c,.int .i64 left] w fun e w'=>e=.returned (.int .i64 (leftOf left (ls.length+tot ls)))∧w=w':=by
 have hn:=h.len
 have hL:n≤ls.length∧ls.length≤n:=by have:=h.1;omega
 by_cases hneg:left - n<0
 ·go_enter Tryz.func56,Tryz.ntmps56
  go_wp2
  go_ret
  exact⟨zG (by unfold leftOf;split<;>omega),rfl⟩
 ·go_enter Tryz.func56,Tryz.ntmps56
  go_wp2
  go_loop [1,5] (fun v i=>∃ k:Nat,k≤n∧i=.int .i64 k∧∃ m:Int,v=.int .i64 m∧Hid (m=left - n - tot (ls.take k))∧0≤m∧m≤1048576)
   (fun _ i=>n - (intOf i).toNat)
  case atStart=>exact⟨0,Nat.zero_le _,rfl,_,rfl,by simp [tot,Hid],by omega,by omega⟩
  case round =>
   obtain⟨k,hk,rfl,m,rfl,hm,hm0,hm1⟩:=hrel
   by_cases hlt:k<n
   ·obtain⟨ad,Ak,ck,l,rfl,hlo,hhi,hl,hcell,hrk⟩:=h.row hlt
    have hlen:=hrk.len
    have hg:=zgv m l.length
    have ht:=za (zbe hl.out)
    have hle:=zbY ls (k+1)
    by_cases hs:leftOf m l.length<0
    ·go_wp2_with (go_at_call 118;refine (zhK _ _ _ _ _ hlen hm0 hm1).mono ?_;rintro e w' ⟨rfl,rfl⟩)
     go_ret
     have hm':=hm.out
     have ht':=ht.out
     exact⟨zG (by unfold leftOf at hs ⊢;(repeat split)<;>(split at hs)<;>omega),rfl⟩
    ·go_wp2_with (go_at_call 118;refine (zhK _ _ _ _ _ hlen hm0 hm1).mono ?_;rintro e w' ⟨rfl,rfl⟩)
     go_round
     case rel=>exact⟨k+1,by omega,by go_num,_,rfl,by have hm':=hm.out;have ht':=ht.out;unfold Hid;unfold leftOf at hs ⊢;split at hs<;>split<;>omega,by omega,leftOf_le _ _ hm1⟩
     case measure=>simp [intOf];omega
   ·obtain rfl:k=n:=by omega
    go_wp2
    go_ret
    have hm':=hm.out
    rw [List.take_of_length_le (by omega)] at hm'
    exact⟨zG (by unfold leftOf;split<;>omega),rfl⟩
structure Aut where
 al:Int
 next:List (List Int)
 acc:List Bool
def zC (w:World) (lo hi:Nat) (A:Option Addr) (n:Nat) (A':Option Addr) (n':Nat) (a:Aut):Prop:=
 zaw w lo hi A n a.next∧n'=a.acc.length∧Reads w lo hi 1 A' n' (zP a.acc)
section
variable {w w':World} {lo hi n n':Nat} {A A':Option Addr} {a:Aut}
theorem zC.ext (h:zC w lo hi A n A' n' a)(hb:Ext w w'):zC w' lo hi A n A' n' a:=⟨h.1.ext hb,h.2.1,h.2.2.ext hb⟩
theorem zC.frm {S:Nat→Prop}(h:zC w lo hi A n A' n' a)(hb:Frm S w w')(hS:∀ k,lo≤k→k<hi→¬ S k):zC w' lo hi A n A' n' a:=⟨h.1.frm hb hS,h.2.1,h.2.2.frm hb hS⟩
theorem zC.more {lo' hi':Nat}(h:zC w lo hi A n A' n' a)(hL:lo'≤lo)(hH:hi≤hi'):zC w lo' hi' A n A' n' a:=⟨h.1.more hL hH,h.2.1,h.2.2.more hL hH⟩
theorem zC.n1 (h:zC w lo hi A n A' n' a):n=a.next.length:=h.1.1
theorem zC.n2 (h:zC w lo hi A n A' n' a):n'=a.acc.length:=h.2.1
end
def Aut.size (a:Aut):Nat:=a.next.length+tot a.next+a.acc.length
theorem szAutomaton_any (lo hi:Nat) (A:Option Addr) (n c:Nat) (A':Option Addr) (n' c':Nat) (a:Aut) (left:Int) (w:World)(h:zC w lo hi A n A' n' a)(h0:0≤left)(h1:left≤1048576) :
  Calls Tryz.prog 16 #[.agg #[.int .i64 a.al,.slice A n c,.slice A' n' c'],.int .i64 left] w fun e w'=>e=.returned (.int .i64 (leftOf left a.size))∧Ext w w':=by
 have hle:=leftOf_le left (a.next.length+tot a.next) h1
 have hsz:leftOf left a.size=if leftOf left (a.next.length+tot a.next)<0 then -1 else leftOf (leftOf left (a.next.length+tot a.next)) a.acc.length:=by
  unfold leftOf Aut.size;(repeat' split)<;>omega
 have Hsz:=za hsz
 clear hsz
 have hR:=fun W (hW:Ext w W)=>h.1.ext hW
 have HR:=za hR
 clear hR
 have hn':=h.2.1
 have hl':=h.2.2.len
 subst hn'
 by_cases hneg:leftOf left (a.next.length+tot a.next)<0
 ·go_enter Tryz.func16,Tryz.ntmps16
  go_wp2_with (go_at_call 56;refine (zgP _ _ _ _ _ _ _ _ (HR.out _ ((Ext.refl _).alloc _)) h0 h1).mono ?_;rintro e w' ⟨rfl,rfl⟩)
  go_ret
  exact⟨zG (by rw [Hsz.out,if_pos hneg]),(Ext.refl _).alloc _⟩
 ·go_enter Tryz.func16,Tryz.ntmps16
  have hpos:0≤leftOf left (a.next.length+tot a.next):=by omega
  go_wp2_with (first
   |(go_at_call 56;refine (zgP _ _ _ _ _ _ _ _ (HR.out _ ((Ext.refl _).alloc _)) h0 h1).mono ?_;rintro e w' ⟨rfl,rfl⟩)
   |(go_at_call 57;refine (szBoolS_any _ _ _ _ _ hl' hpos hle).mono ?_;rintro e w' ⟨rfl,rfl⟩))
  all_goals go_ret
  ·exact⟨zG (by have:=Hsz.out;have:=zgv (leftOf left (a.next.length+tot a.next)) a.acc.length;rw [if_neg (by omega)] at *;omega),(Ext.refl _).alloc _⟩
  ·exact⟨zG (by have:=Hsz.out;rw [if_neg (by omega)] at *;omega),(Ext.refl _).alloc _⟩
theorem yC01a1 {P:Prop}(h:P:=by
 go_wp2
 go_roundw
 case rel=>exact⟨k+1,by omega,by go_num,rest.tail,by have:=hrest.out;unfold Hid;rw [List.length_tail];omega,hs1.out.1,ziL.frm (Frm.setCell _ _ _ _) (by omega)⟩
 case measure=>simp [intOf];omega
 ):P:=h
theorem yC01a2 {P:Prop}(h:P:=by
 obtain rfl:k=n:=by omega
 go_wp2
 go_ret
 rw [List.take_of_length_le (by omega)] at ziJ
 have:rest=[]:=List.eq_nil_of_length_eq_zero (by rw [hrest.out];omega)
 subst this
 exact⟨rfl,by simpa using ziJ,ziL⟩
 ):P:=h
theorem toIntS_any (lo hi:Nat) (A:Option Addr) (n c:Nat) (l:List Int) (w:World)(h:Reads w lo hi 1 A n (ints l))(hn:n≤1048576) :
  Calls Tryz.prog 121 #[.slice A n c] w fun e w'=>e=.returned (.slice (some ⟨w.heap.size,0,none⟩) n n)∧w'.ownsRow w.heap.size 3 1 (.slice (some ⟨w.heap.size,0,none⟩) n n) n (ints l)∧Ext w w':=by
 have hl:=h.length
 go_enter Tryz.func121,Tryz.ntmps121
 go_wp2_with (at_make;refine zar w _ rfl _ _ 128 rfl 3 _ 1 8 Tryz.underlying128 zah _ _ n rfl rfl (Ext.refl _) (by omega) (by unfold maxLen;omega) ?_;intro w1 hext1 ziS _ _)
 go_loopw [4] (fun i wr=>∃ k:Nat,k≤n∧i=.int .i64 k∧∃ rest:List Value,Hid (rest.length=n - k)∧wr.ownsRow w.heap.size 3 1 (.slice (some ⟨w.heap.size,0,none⟩) n n) n ((ints l).take k++rest)∧Ext w wr)
  (fun i _=>n - (intOf i).toNat)
 case atStart=>exact⟨0,Nat.zero_le _,rfl,_,by have:=ziS.1;simp at this;unfold Hid;omega,by simpa using ziS,hext1⟩
 case round =>
  obtain⟨k,hk,rfl,rest,hrest,ziJ,ziL⟩:=hrel
  by_cases hlt:k<n
  ·obtain⟨ad,x,rfl,hlo,hhi,hx,hcell⟩:=(h.ext ziL).int hlt
   have hc0:wr.cell? ⟨w.heap.size,k,none⟩=((ints l).take k++rest)[k]?:=ziJ.cellAt k (by omega)
   have hf0:=ziJ.frozenAt k
   have hin:k<((ints l).take k++rest).length:=by rw [ziJ.1];omega
   rw [List.getElem?_eq_getElem hin] at hc0
   have hst:=ziJ.stored k (.int .i64 x)
   rw [set_mix (by simp [ints,hx.out]) (by rw [hrest.out];omega)] at hst
   have hs1:=za hst
   clear hst
   generalize ((ints l).take k++rest)[k]=old at hc0
   exact yC01a1
  ·exact yC01a2
theorem zbH:(Tryz.prog.info? 4).map (fun i=>(i.zero,i.size,i.bytes))=some (some (.bool false),1,1):=by kernel_rfl
theorem zdc:(Tryz.prog.info? 128).map (fun i=>(i.zero,i.size,i.bytes))=some (some (.slice none 0 0),1,24):=by kernel_rfl
theorem toBoolS_any (lo hi:Nat) (A:Option Addr) (n c:Nat) (l:List Bool) (w:World)(h:Reads w lo hi 1 A n (zP l))(hn:n≤1048576) :
  Calls Tryz.prog 61 #[.slice A n c] w fun e w'=>e=.returned (.slice (some ⟨w.heap.size,0,none⟩) n n)∧w'.ownsRow w.heap.size 4 1 (.slice (some ⟨w.heap.size,0,none⟩) n n) n (zP l)∧Ext w w':=by
 have hl:=h.length
 go_enter Tryz.func61,Tryz.ntmps61
 go_wp2_with (at_make;refine zar w _ rfl _ _ 26 rfl 4 _ 1 1 Tryz.underlying26 zbH _ _ n rfl rfl (Ext.refl _) (by omega) (by unfold maxLen;omega) ?_;intro w1 hext1 ziS _ _)
 go_loopw [4] (fun i wr=>∃ k:Nat,k≤n∧i=.int .i64 k∧∃ rest:List Value,Hid (rest.length=n - k)∧wr.ownsRow w.heap.size 4 1 (.slice (some ⟨w.heap.size,0,none⟩) n n) n ((zP l).take k++rest)∧Ext w wr)
  (fun i _=>n - (intOf i).toNat)
 case atStart=>exact⟨0,Nat.zero_le _,rfl,_,by have:=ziS.1;simp at this;unfold Hid;omega,by simpa using ziS,hext1⟩
 case round =>
  obtain⟨k,hk,rfl,rest,hrest,ziJ,ziL⟩:=hrel
  by_cases hlt:k<n
  ·obtain⟨ad,x,rfl,hlo,hhi,hx,hcell⟩:=(h.ext ziL).bool hlt
   have hc0:wr.cell? ⟨w.heap.size,k,none⟩=((zP l).take k++rest)[k]?:=ziJ.cellAt k (by omega)
   have hf0:=ziJ.frozenAt k
   have hin:k<((zP l).take k++rest).length:=by rw [ziJ.1];omega
   rw [List.getElem?_eq_getElem hin] at hc0
   have hst:=ziJ.stored k (.bool x)
   rw [set_mix (by simp [zP,hx.out]) (by rw [hrest.out];omega)] at hst
   have hs1:=za hst
   clear hst
   generalize ((zP l).take k++rest)[k]=old at hc0
   exact yC01a1
  ·exact yC01a2
def zx (w:World) (base:Nat) (rows:List Value) (ls:List (List Int)):Prop:=
 rows.length=ls.length∧(∀ (i:Nat) (row:Value) (l:List Int),rows[i]?=some row→ls[i]?=some l→w.ownsRow base 3 1 row l.length (ints l)) ∧
  ∀ (i j:Nat) (ri rj:Value) (b:Nat),rows[i]?=some ri→rows[j]?=some rj→i≠j→ri.ownBlock=some b→rj.ownBlock≠some b
theorem zx.nil (w:World) (base:Nat):zx w base [] []:=⟨rfl,fun i row l h=>by simp at h,fun i j ri rj b h=>by simp at h⟩
theorem zx.ext {w w':World} {base:Nat} {rows:List Value} {ls:List (List Int)}(h:zx w base rows ls)(hb:Ext w w'):zx w' base rows ls:=
 ⟨h.1,fun i row l hr hl=>zh (h.2.1 i row l hr hl) hb,h.2.2⟩
theorem zx.row {w:World} {base:Nat} {rows:List Value} {ls:List (List Int)}(h:zx w base rows ls) {i:Nat} {row:Value}(hr:rows[i]?=some row):∃ l,ls[i]?=some l∧w.ownsRow base 3 1 row l.length (ints l):=by
 have hi:i<rows.length:=(List.getElem?_eq_some_iff.1 hr).1
 have hl:ls[i]?=some (ls[i]'(by rw [← h.1];exact hi)):=List.getElem?_eq_getElem _
 exact⟨_,hl,h.2.1 i row _ hr hl⟩
theorem zx.frm {S:Nat→Prop} {w w':World} {base:Nat} {rows:List Value} {ls:List (List Int)}(h:zx w base rows ls)(hb:Frm S w w')(hS:∀ (i:Nat) (row:Value) (b:Nat),rows[i]?=some row→row.ownBlock=some b→¬ S b):zx w' base rows ls:=
 ⟨h.1,fun i row l hr hl=>zg (h.2.1 i row l hr hl) hb (fun b hb=>hS i row b hr hb),h.2.2⟩
theorem zx.snoc {w w':World} {base:Nat} {rows:List Value} {ls:List (List Int)}(h:zx w base rows ls)(hb:Ext w w') {row:Value} {l:List Int}(hbase:base≤w.heap.size)(hrow:w'.ownsRow w.heap.size 3 1 row l.length (ints l)) :
  zx w' base (rows++[row]) (ls++[l]):=by
 have hlen:=h.1
 refine⟨by simp [hlen],fun i r m hr hm=>?_,fun i j ri rj b hri hrj hij hbi=>?_⟩
 ·rcases Nat.lt_trichotomy i rows.length with hi|hi|hi
  ·rw [List.getElem?_append_left hi] at hr
   rw [List.getElem?_append_left (by omega)] at hm
   exact zh (h.2.1 i r m hr hm) hb
  ·rw [List.getElem?_append_right (by omega),hi,Nat.sub_self] at hr
   rw [List.getElem?_append_right (by omega),hi,hlen,Nat.sub_self] at hm
   simp at hr hm
   subst hr;subst hm
   exact zq hrow hbase
  ·rw [List.getElem?_eq_none (by simp;omega)] at hr;cases hr
 ·have old:∀ (i:Nat) (r:Value) (b:Nat),i<rows.length→rows[i]?=some r→r.ownBlock=some b→b<w.heap.size:=fun i r b hi hr hb=>by
   obtain⟨m,_,ho⟩:=h.row hr
   exact (ho.lt b hb).2
  have new:∀ b,row.ownBlock=some b→w.heap.size≤b:=fun b hb=>(hrow.lt b hb).1
  have hi:i≤rows.length:=by have:=(List.getElem?_eq_some_iff.1 hri).1;simp at this;omega
  have hj:j≤rows.length:=by have:=(List.getElem?_eq_some_iff.1 hrj).1;simp at this;omega
  rcases Nat.lt_or_eq_of_le hi with hi|hi<;>rcases Nat.lt_or_eq_of_le hj with hj|hj
  ·rw [List.getElem?_append_left hi] at hri
   rw [List.getElem?_append_left hj] at hrj
   exact h.2.2 i j ri rj b hri hrj hij hbi
  ·rw [List.getElem?_append_left hi] at hri
   subst hj
   simp at hrj
   subst hrj
   intro hc
   have h1:=old i ri b hi hri hbi
   have h2:=new b hc
   omega
  ·rw [List.getElem?_append_left hj] at hrj
   subst hi
   simp at hri
   subst hri
   intro hc
   have h1:=old j rj b hj hrj hc
   have h2:=new b hbi
   omega
  ·omega
def zeH (w:World) (base:Nat) (v:Value) (ls:List (List Int)):Prop:=∃ rows,w.ownsRow base 128 1 v ls.length rows∧zx w base rows ls
theorem zeH.ext {w w':World} {base:Nat} {v:Value} {ls:List (List Int)}(h:zeH w base v ls)(hb:Ext w w'):zeH w' base v ls:=by
 obtain⟨rows,h1,h2⟩:=h
 exact⟨rows,zh h1 hb,h2.ext hb⟩
theorem zx.keep {S:Nat→Prop} {w w':World} {base:Nat} {rows:List Value} {ls:List (List Int)}(h:zx w base rows ls)(hb:Frm S w w')(hS:∀ b,base≤b→¬ S b):zx w' base rows ls:=
 ⟨h.1,fun i row l hr hl=>zcn (h.2.1 i row l hr hl) hb hS,h.2.2⟩
theorem zx.less {w:World} {base base':Nat} {rows:List Value} {ls:List (List Int)}(h:zx w base rows ls)(hb:base'≤base):zx w base' rows ls:=
 ⟨h.1,fun i row l hr hl=>zq (h.2.1 i row l hr hl) hb,h.2.2⟩
theorem zeH.keep {S:Nat→Prop} {w w':World} {base:Nat} {v:Value} {ls:List (List Int)}(h:zeH w base v ls)(hb:Frm S w w')(hS:∀ b,base≤b→¬ S b):zeH w' base v ls:=by
 obtain⟨rows,h1,h2⟩:=h
 exact⟨rows,zcn h1 hb hS,h2.keep hb hS⟩
theorem zeH.less {w:World} {base base':Nat} {v:Value} {ls:List (List Int)}(h:zeH w base v ls)(hb:base'≤base):zeH w base' v ls:=by
 obtain⟨rows,h1,h2⟩:=h
 exact⟨rows,zq h1 hb,h2.less hb⟩
theorem zeH.reads {w:World} {base:Nat} {A:Option Addr} {n c:Nat} {ls:List (List Int)}(h:zeH w base (.slice A n c) ls)(hn:n=ls.length):zaw w base w.heap.size A n ls:=by
 obtain⟨rows,h1,h2⟩:=h
 subst hn
 refine⟨rfl,rows,Reads.of_own h1,h2.1,fun i row l hr hl=>?_⟩
 have ho:=h2.2.1 i row l hr hl
 obtain⟨A',c',rfl⟩:=zi ho
 exact⟨A',c',rfl,Reads.of_own ho⟩
theorem rows_store {w:World} {base g n cap k:Nat} {rows rest:List Value} {row:Value} {ls:List (List Int)} (ziJ:w.ownsRow base 128 1 (.slice (some ⟨g,0,none⟩) n cap) n (rows++rest))(hk:rows.length=k)(hr:0<rest.length)
  (hrows:zx w base (rows++[row]) ls) :
  (w.setCell ⟨g,k,none⟩ row).ownsRow base 128 1 (.slice (some ⟨g,0,none⟩) n cap) n ((rows++[row])++rest.tail)∧zx (w.setCell ⟨g,k,none⟩ row) base (rows++[row]) ls:=by
 refine⟨?_,hrows.frm (Frm.setCell w g k row) fun i r b hr hb=>?_⟩
 ·have h:=(ziJ.stored k row).1
  rw [set_end row hk hr] at h
  exact h
 ·rintro rfl
  obtain⟨l,_,ho⟩:=hrows.row hr
  exact zaX ho ziJ (by decide) hb rfl
theorem toIntSS_any (lo hi:Nat) (A:Option Addr) (n c:Nat) (ls:List (List Int)) (w:World)(h:zaw w lo hi A n ls)(hn:ls.length+tot ls≤1048576) :
  Calls Tryz.prog 60 #[.slice A n c] w fun e w'=>e=.returned (.slice (some ⟨w.heap.size,0,none⟩) n n)∧zeH w' w.heap.size (.slice (some ⟨w.heap.size,0,none⟩) n n) ls∧Ext w w':=by
 have hL:n≤ls.length∧ls.length≤n:=by have:=h.1;omega
 have hrow:∀ (k:Nat) (l:List Int),ls[k]?=some l→l.length≤1048576:=fun k l hl=>by
  have h1:=zbe hl
  have h2:=zbY ls (k+1)
  omega
 have Hrow:=za hrow
 clear hrow
 go_enter Tryz.func60,Tryz.ntmps60
 go_wp2_with (at_make;refine zar w _ rfl _ _ 25 rfl 128 _ 1 24 Tryz.underlying25 zdc _ _ n rfl rfl (Ext.refl _) (by omega) (by unfold maxLen;omega) ?_;intro w1 hext1 ziS _ hsz1)
 go_loopw [4] (fun i wr=>∃ k:Nat,k≤n∧i=.int .i64 k∧∃ rows rest:List Value,Hid (rest.length=n - k)∧wr.ownsRow w.heap.size 128 1 (.slice (some ⟨w.heap.size,0,none⟩) n n) n (rows++rest)∧zx wr w.heap.size rows (ls.take k)∧Ext w wr)
  (fun i _=>n - (intOf i).toNat)
 case atStart=>exact⟨0,Nat.zero_le _,rfl,[],_,by have:=ziS.1;simp at this;unfold Hid;omega,by simpa using ziS,zx.nil _ _,hext1⟩
 case round =>
  obtain⟨k,hk,rfl,rows,rest,hrest,ziJ,hrows,ziL⟩:=hrel
  by_cases hlt:k<n
  ·obtain⟨ad,Ak,ck,l,rfl,hlo,hhi,hl,hcell,hrk⟩:=(h.ext ziL).row hlt
   have hll:=Hrow.out k l hl.out
   have hrl:rows.length≤k∧k≤rows.length:=by have:=hrows.1;simp at this;omega
   go_wp2_with (go_at_call 121;refine (toIntS_any _ _ _ _ _ _ _ hrk hll).mono ?_;rintro e w2 ⟨rfl,ziT,hext2⟩;have hown':=zh ziJ hext2;have hf0:=hown'.frozenAt k;obtain⟨old,hc0⟩:=zau hown' k (by omega))
   have hrs:=hrows.snoc hext2 ziL.size ziT
   have hres:=rows_store (k:=k) hown' (by omega) (by rw [hrest.out];omega) hrs
   go_roundw
   case rel=>exact⟨k+1,by omega,by go_num,_,rest.tail,by have:=hrest.out;unfold Hid;rw [List.length_tail];omega,hres.1,by rw [List.take_add_one,hl.out];exact hres.2,(ziL.trans hext2).frm (Frm.setCell _ _ _ _) (by omega)⟩
   case measure=>simp [intOf];omega
  ·obtain rfl:k=n:=by omega
   go_wp2
   go_ret
   have:rest=[]:=List.eq_nil_of_length_eq_zero (by rw [hrest.out];omega)
   subst this
   rw [List.take_of_length_le (by omega)] at hrows
   refine⟨rfl,⟨rows,?_,hrows⟩,ziL⟩
   rw [← h.1]
   simpa using ziJ
def zac (w:World) (base:Nat) (A:Option Addr) (n c:Nat) (A':Option Addr) (n' c':Nat) (a:Aut):Prop:=
 zeH w base (.slice A n c) a.next∧n=a.next.length∧w.ownsRow base 4 1 (.slice A' n' c') n' (zP a.acc)∧n'=a.acc.length
theorem zac.ext {w w':World} {base:Nat} {A:Option Addr} {n c:Nat} {A':Option Addr} {n' c':Nat} {a:Aut}(h:zac w base A n c A' n' c' a)(hb:Ext w w'):zac w' base A n c A' n' c' a:=
 ⟨h.1.ext hb,h.2.1,zh h.2.2.1 hb,h.2.2.2⟩
theorem zac.keep {S:Nat→Prop} {w w':World} {base:Nat} {A:Option Addr} {n c:Nat} {A':Option Addr} {n' c':Nat} {a:Aut}(h:zac w base A n c A' n' c' a)(hb:Frm S w w')(hS:∀ b,base≤b→¬ S b):zac w' base A n c A' n' c' a:=
 ⟨h.1.keep hb hS,h.2.1,zcn h.2.2.1 hb hS,h.2.2.2⟩
theorem zac.less {w:World} {base base':Nat} {A:Option Addr} {n c:Nat} {A':Option Addr} {n' c':Nat} {a:Aut}(h:zac w base A n c A' n' c' a)(hb:base'≤base):zac w base' A n c A' n' c' a:=
 ⟨h.1.less hb,h.2.1,zq h.2.2.1 hb,h.2.2.2⟩
theorem zac.reads {w:World} {base:Nat} {A:Option Addr} {n c:Nat} {A':Option Addr} {n' c':Nat} {a:Aut}(h:zac w base A n c A' n' c' a):zC w base w.heap.size A n A' n' a:=
 ⟨h.1.reads h.2.1,h.2.2.2,Reads.of_own h.2.2.1⟩
def RetAut (w:World) (a:Aut) (e:Ending) (w':World):Prop:=
 ∃ A n c A' n' c',e=.returned (.agg #[.int .i64 a.al,.slice A n c,.slice A' n' c'])∧zac w' w.heap.size A n c A' n' c' a∧Ext w w'
theorem toAutomaton_any (lo hi:Nat) (A:Option Addr) (n c:Nat) (A':Option Addr) (n' c':Nat) (a:Aut) (w:World)(h:zC w lo hi A n A' n' a)(hs:a.size≤1048576) :
  Calls Tryz.prog 19 #[.agg #[.int .i64 a.al,.slice A n c,.slice A' n' c']] w (RetAut w a):=by
 have h1:a.next.length+tot a.next≤1048576:=by unfold Aut.size at hs;omega
 have h2:n'≤1048576:=by have:=h.n2;unfold Aut.size at hs;omega
 have hR:=fun W (hW:Ext w W)=>h.1.ext hW
 have hR2:=fun W (hW:Ext w W)=>h.2.2.ext hW
 have HR:=za hR
 have HR2:=za hR2
 clear hR hR2
 go_enter Tryz.func19,Tryz.ntmps19
 go_wp2_with (first
  |(go_at_call 60;refine (toIntSS_any _ _ _ _ _ _ _ (HR.out _ ?_) h1).mono ?_;exact (((Ext.refl _).alloc _).alloc _).alloc _;rintro e w2 ⟨rfl,ziT,hext2⟩;obtain⟨b1,b2,b3⟩:=zK hext2;have c1:=b1.cell;have c3:=b3.cell;have f3:=b3.frozen;have hx2:=((((Ext.refl w).alloc _).alloc _).alloc _).trans hext2)
  |(go_at_call 61;refine (toBoolS_any _ _ _ _ _ _ _ (HR2.out _ ?_) h2).mono ?_;exact hx2.setCell (by simp;omega) _;rintro e w3 ⟨rfl,ziU,hext3⟩;have b2':=(b2.far (p:=⟨w.heap.size+1+1,1,none⟩) (by simp) _).ext hext3;have b3':=(b3.set_ 1 _).ext hext3;have c2':=b2'.cell;have f2':=b2'.frozen;have c3':=b3'.cell;have f3':=b3'.frozen))
 have z2:=hext2.size
 have z3:=hext3.size
 simp only [World.size_alloc,World.size_setCell] at z2 z3 ziT ziU
 refine bodyPost_ret (v:=.agg #[.int .i64 a.al,.slice (some ⟨w.heap.size+1+1+1,0,none⟩) n n,.slice (some ⟨w2.heap.size,0,none⟩) n' n']) (by simp [results,Tryz.results19,go_sem,c2']) rfl ⟨_,_,_,_,_,_,rfl,⟨?_,h.n1,?_,h.n2⟩,?_⟩
 ·refine (ziT.keep (S:=fun k=>k<w.heap.size+3) ?_ (by intro b hb;omega)).less (by omega)
  exact (((((((Frm.refl _ _).cell (by simp) _).ext hext3).cell (by simp) _).cell (by simp) _).cell (by simp) _).cell (by simp) _)
 ·refine zq (zcn (S:=fun k=>k<w.heap.size+3) ziU ?_ (by intro b hb;omega)) (by omega)
  exact (((((Frm.refl _ _).cell (by simp) _).cell (by simp) _).cell (by simp) _).cell (by simp) _)
 ·exact ((((((hx2.setCell (by simp;omega) _).trans hext3).setCell (by simp;omega) _).setCell (by simp) _).setCell (by simp) _).setCell (by simp) _)
end Go.Proofs.YtcfchopfijalpaaGreatDoor
namespace Go.Proofs.YtcfchopfijalpaaGreatDoor
open Go Go.RowKit Go.ChangeShapes Go.WideShapes Go.Deep
theorem zfu {α:Type} (f:α→Value) (V:Nat→Value):∀ len:Nat,(∀ r,r<len→∃ n,V r=f n)→∃ l:List α,l.length=len∧(List.range len).map V=l.map f
 |0,_=>⟨[],rfl,rfl⟩
 |len+1,h=>by
  obtain⟨l,hl,he⟩:=zfu f V len fun r hr=>h r (by omega)
  obtain⟨n,hn⟩:=h len (by omega)
  exact⟨l++[n],by simp [hl],by rw [List.range_succ,List.map_append,he];simp [hn]⟩
section
variable {H:Type} {enc:TypeId × Value→H} {P:Program} {w:World} {spare:Nat→Bool} {held:Bool}
theorem zis {t e:TypeId} {fuel:Nat} {cs:List Value} {x:DataW H × List MemPlace}(ht:P.underlying t=some (.slice e))(hc:P.cellsOf e=1)(h:DataW.trod enc P w 0 spare held fuel t cs=some x) :
  ∃ (A:Option Addr) (n c:Nat) (V:Nat→Value) (k:Nat),cs=[.slice A n c]∧Reads w 0 w.heap.size 1 A n ((List.range n).map V)∧∀ i,i<n→∃ y,DataW.trod enc P w 0 spare held k e [V i]=some y:=by
 rcases open_slice1 ht hc h with ⟨rfl,_⟩|⟨a,len,cap,m,n,V,D,Pl,rfl,hb,hl,hm,hmm,_,hx⟩
 ·exact⟨none,0,0,fun _=>undef,0,rfl,Reads.nil,fun i hi=>by omega⟩
 ·have hlm:len≤m:=by rw [hmm];split<;>omega
  refine⟨some a,len,cap,V,n,rfl,⟨by simp,by unfold maxLen at hm;omega,fun h0=>?_⟩,fun i hi=>⟨_,(hx i (by omega)).2⟩⟩
  have hblk:a.block<w.heap.size:=by
   have:=World.block_lt_of_cell? w _ (hx 0 (by omega)).1
   rwa [zfo] at this
  refine⟨a,rfl,Nat.zero_le _,hblk,fun j u hu=>?_⟩
  have hj:j<len:=by
   have:=(List.getElem?_eq_some_iff.1 hu).1
   simpa using this
  rw [(hx j (by omega)).1]
  simpa [hj] using hu
theorem open_ints_ {t e:TypeId} {fuel:Nat} {cs:List Value} {x:DataW H × List MemPlace}(ht:P.underlying t=some (.slice e))(he:P.underlying e=some (.int .i64))(hc:P.cellsOf e=1)(h:DataW.trod enc P w 0 spare held fuel t cs=some x) :
  ∃ (A:Option Addr) (c:Nat) (l:List Int),cs=[.slice A l.length c]∧Reads w 0 w.heap.size 1 A l.length (ints l):=by
 obtain⟨A,n,c,V,k,rfl,hr,hV⟩:=zis ht hc h
 obtain⟨l,hl,hm⟩:=zfu (Value.int .i64) V n fun r hr=>by
  obtain⟨y,hy⟩:=hV r hr
  obtain⟨m,hm,_⟩:=DataW.trod_int he hy
  exact⟨m,by simpa using hm⟩
 subst hl
 rw [hm] at hr
 exact⟨A,c,l,rfl,hr⟩
theorem open_bools_ {t e:TypeId} {fuel:Nat} {cs:List Value} {x:DataW H × List MemPlace}(ht:P.underlying t=some (.slice e))(he:P.underlying e=some .bool)(hc:P.cellsOf e=1)(h:DataW.trod enc P w 0 spare held fuel t cs=some x) :
  ∃ (A:Option Addr) (c:Nat) (l:List Bool),cs=[.slice A l.length c]∧Reads w 0 w.heap.size 1 A l.length (zP l):=by
 obtain⟨A,n,c,V,k,rfl,hr,hV⟩:=zis ht hc h
 obtain⟨l,hl,hm⟩:=zfu Value.bool V n fun r hr=>by
  obtain⟨y,hy⟩:=hV r hr
  obtain⟨m,hm,_⟩:=DataW.trod_bool he hy
  exact⟨m,by simpa using hm⟩
 subst hl
 rw [hm] at hr
 exact⟨A,c,l,rfl,hr⟩
theorem zgF {w:World} (V:Nat→Value):∀ n:Nat,(∀ i,i<n→∃ (A:Option Addr) (c:Nat) (l:List Int),V i=.slice A l.length c∧Reads w 0 w.heap.size 1 A l.length (ints l))→∃ ls:List (List Int),ls.length=n∧zdC w 0 w.heap.size ((List.range n).map V) ls
 |0,_=>⟨[],rfl,rfl,fun i row l h=>by simp at h⟩
 |n+1,h=>by
  obtain⟨ls,hl,hr⟩:=zgF V n fun i hi=>h i (by omega)
  obtain⟨A,c,l,hv,hx⟩:=h n (by omega)
  refine⟨ls++[l],by simp [hl],by simp [hl],fun i row m hrow hm=>?_⟩
  have hi:i<n+1:=by
   have:=(List.getElem?_eq_some_iff.1 hrow).1
   simpa using this
  rcases Nat.lt_or_eq_of_le (Nat.le_of_lt_succ hi) with h1|h1
  ·refine hr.2 i row m ?_ ?_
   ·simp only [List.getElem?_map] at hrow ⊢
    rw [List.getElem?_range (by omega)] at hrow
    rw [List.getElem?_range h1]
    exact hrow
   ·rwa [List.getElem?_append_left (by omega)] at hm
  ·subst h1
   simp at hrow
   rw [List.getElem?_append_right (by omega),hl,Nat.sub_self] at hm
   simp at hm
   subst hm;subst hrow
   exact⟨A,c,hv,hx⟩
theorem open_intss_ {t e q:TypeId} {fuel:Nat} {cs:List Value} {x:DataW H × List MemPlace}(ht:P.underlying t=some (.slice e))(he:P.underlying e=some (.slice q))(hq:P.underlying q=some (.int .i64))(hc:P.cellsOf e=1)(hcq:P.cellsOf q=1)
  (h:DataW.trod enc P w 0 spare held fuel t cs=some x) :
  ∃ (A:Option Addr) (n c:Nat) (ls:List (List Int)),cs=[.slice A n c]∧zaw w 0 w.heap.size A n ls:=by
 obtain⟨A,n,c,V,k,rfl,hr,hV⟩:=zis ht hc h
 obtain⟨ls,hl,hm⟩:=zgF (w:=w) V n fun i hi=>by
  obtain⟨y,hy⟩:=hV i hi
  obtain⟨A,c,l,hl,hr⟩:=open_ints_ he hq hcq hy
  exact⟨A,c,l,by simpa using hl,hr⟩
 exact⟨A,n,c,ls,rfl,hl.symm,_,hr,hm⟩
theorem open_aut {t e q b:TypeId} {f0 f1 f2:Field} {fuel:Nat} {cs:List Value} {x:DataW H × List MemPlace}(ht:P.underlying t=some (.struct #[f0,f1,f2]))(hC:P.cellsOf t=3)
  (o0:f0.offset=0) (o1:f1.offset=1) (o2:f2.offset=2) (c0:P.cellsOf f0.type=1) (c1:P.cellsOf f1.type=1) (c2:P.cellsOf f2.type=1)
  (u0:P.underlying f0.type=some (.int .i64)) (u1:P.underlying f1.type=some (.slice e)) (ue:P.underlying e=some (.slice q)) (uq:P.underlying q=some (.int .i64)) (ce:P.cellsOf e=1) (cq:P.cellsOf q=1)
  (u2:P.underlying f2.type=some (.slice b)) (ub:P.underlying b=some .bool) (cb:P.cellsOf b=1)
  (h:DataW.trod enc P w 0 spare held fuel t cs=some x) :
  ∃ (a:Aut) (A:Option Addr) (n c:Nat) (A':Option Addr) (n' c':Nat),cs=[.int .i64 a.al,.slice A n c,.slice A' n' c']∧zC w 0 w.heap.size A n A' n' a:=by
 obtain⟨y0,y1,y2,k,_,hl,h0,h1,h2⟩:=trod_struct3 ht h
 rw [hC] at hl
 match cs,hl with
 |[v0,v1,v2],_ =>
  rw [o0,c0] at h0
  rw [o1,c1] at h1
  rw [o2,c2] at h2
  obtain⟨al,e0,_⟩:=DataW.trod_int u0 h0
  obtain⟨A,n,c,ls,e1,hr1⟩:=open_intss_ u1 ue uq ce cq h1
  obtain⟨A',c',l,e2,hr2⟩:=open_bools_ u2 ub cb h2
  simp at e0 e1 e2
  subst e0;subst e1;subst e2
  exact⟨⟨al,ls,l⟩,A,n,c,A',_,c',rfl,hr1,rfl,hr2⟩
end
end Go.Proofs.YtcfchopfijalpaaGreatDoor
namespace Go.Proofs.YtcfchopfijalpaaGreatDoor
open Go Go.RowKit
def zfz:Op→Bool
 |.move _ | .assign _ | .pick _ _ _ | .binOp _ _ _ _ _ | .unOp _ _ _ | .load _ _ | .fieldAddr _ _ _ | .field _ _ _ | .indexAddr _ _ _ | .index _ _ _ | .extract _ _ | .build _ _ | .slice _ _ _ _ _ | .convert _ _ _=>true
 |.call { callee:=.builtin .len,.. }=>true
 |.call { callee:=.builtin .cap,.. }=>true
 |_=>false
def okOrd (l:List Oper):List Nat→Array Bool→Bool
 |[],listed=>(Region.ready .any l.toArray listed).isEmpty
 |i :: rest,listed =>
  (match l[i]? with
   |some o=>if zfz o.op then Region.free .any l.toArray listed i&&(Region.ready .any l.toArray listed).contains i else Region.ready .any l.toArray listed==[i]
   |none=>false)&&okOrd l rest (listed.setIfInBounds i true)
def zeD (P:Program) (l:List Oper) (Q:Exit→Act→World→Prop) (S:World→Prop):List Nat→Act→World→Prop
 |[],a,w=>Q .normal a w
 |i :: rest,a,w=>match l[i]? with
  |some o=>if zfz o.op then ∃ v,YieldsIf P l.toArray S o v a∧S w∧zeD P l Q S rest (a.put o.dst v) w
   else wpOp P l.toArray Q i (fun a' w'=>S w'∧zeD P l Q S rest a' w') a w
  |none=>False
section
variable {P:Program} {l:List Oper} {Q:Exit→Act→World→Prop} {S:World→Prop}
theorem zgH (hs:Region.noSelect l.toArray=true)(hQ:∀ (c:List PanicEntry) (a:Act) (d:Tmp) (v:Value) (w:World),Q (.panic c) (a.put (some d) v) w→Q (.panic c) a w) :
  ∀ (ord:List Nat) (listed:Array Bool) (a:Act) (w:World),okOrd l ord listed=true→zeD P l Q S ord a w→wpAnyH P .any l.toArray Q S ord.length listed a w
 |[],listed,a,w,hok,h=>by
  simp only [okOrd,List.isEmpty_iff] at hok
  exact wpAnyH_done hok h 0
 |i :: rest,listed,a,w,hok,h=>by
  cases ho:l[i]? with
  |none=>simp [okOrd,ho] at hok
  |some o =>
   simp only [okOrd,ho,Bool.and_eq_true] at hok
   simp only [zeD,ho] at h
   by_cases hq:zfz o.op=true
   ·rw [if_pos hq] at hok h
    simp only [Bool.and_eq_true] at hok
    obtain⟨v,hy,hS,hr⟩:=h
    exact wpAnyH_take (by simpa using ho) hs hok.1.1 hok.1.2 (fun c a w h=>by cases hd:o.dst with|none=>rw [hd] at h;exact h|some d=>rw [hd] at h;exact hQ c a d v w h) hy hS (zgH hs hQ rest _ _ _ hok.2 hr)
   ·rw [if_neg hq] at hok h
    refine wpAnyH_all (rs:=[i]) (by simpa using hok.1) (by simp) fun j hj=>?_
    rw [List.mem_singleton.1 hj]
    exact wpOp_mono (fun a' w' h=>⟨h.1,zgH hs hQ rest _ _ _ hok.2 h.2⟩) h
theorem zaa {id:Nat} {a:Act} {w:World} (S:World→Prop) (ord:List Nat)(hm:P.follows .mixedOrders=true)(hlen:ord.length=l.length)(hs:Region.noSelect l.toArray=true)(hok:okOrd l ord (Array.replicate l.length false)=true)
  (hQ:∀ (c:List PanicEntry) (a:Act) (d:Tmp) (v:Value) (w:World),Q (.panic c) (a.put (some d) v) w→Q (.panic c) a w) (hS:S w.drew) (h:S w.drew→zeD P l Q S ord a w.drew):(Code.region id l.toArray true).wp P Q a w:=by
 refine wp_region_held (S:=S) hm ?_
 have:=zgH hs hQ ord _ a w.drew hok (h hS)
 rw [hlen] at this
 simpa using this
theorem zcy {a:Act} {w:World}(h:Q .normal a w):zeD P l Q S [] a w:=h
theorem seq_read {i:Nat} {rest:List Nat} {o:Oper} {v:Value} {a:Act} {w:World}(ho:l[i]?=some o)(hq:zfz o.op=true)(hw:Region.wanted o (yielded l.toArray a.tmps)=true)
  (hy:∀ W,S W→(execOp a.eval o).run P W=.ok (.value v) W) (hS:S w) (h:zeD P l Q S rest (a.put o.dst v) w):zeD P l Q S (i :: rest) a w:=by
 simp only [zeD,ho,hq,if_true]
 exact⟨v,.inl ⟨hw,hy⟩,hS,h⟩
theorem seq_skip {i:Nat} {rest:List Nat} {o:Oper} {a:Act} {w:World}(ho:l[i]?=some o)(hw:Region.wanted o (yielded l.toArray a.tmps)=false)
  (hS:S w) (h:zeD P l Q S rest (a.put o.dst undef) w):zeD P l Q S (i :: rest) a w:=by
 simp only [zeD,ho]
 split
 ·exact⟨undef,.inr ⟨hw,rfl⟩,hS,h⟩
 ·unfold wpOp
  simp only [List.getElem?_toArray,ho,hw,Bool.false_eq_true,if_false]
  exact⟨hS,h⟩
theorem zU {i:Nat} {rest:List Nat} {o:Oper} {a:Act} {w:World}
  (h:∀ K:Act→World→Prop,Shut (∀ a w,S w→(S w→zeD P l Q S rest a w)→K a w)→o.wp P a w K Q) (ho:l[i]?=some o:=by rfl) (hq:zfz o.op=false:=by rfl) (hw:Region.wanted o (yielded l.toArray a.tmps)=true:=by rfl):zeD P l Q S (i :: rest) a w:=by
 simp only [zeD,ho,hq]
 unfold wpOp
 simp only [List.getElem?_toArray,ho,hw,if_true]
 exact .inl (h _ fun a w hS hW=>⟨hS,hW hS⟩)
end
theorem sQ {A B:Prop}(h:B) (k:Bx B→A:=by
 intro h0
 repeat (first|(refine seq_skip rfl rfl (by assumption) ?_;simp only [Act.put,List.setIfInBounds_toArray,List.set_cons_zero,List.set_cons_succ])|(refine seq_read (v:=?_) rfl rfl rfl (fun X hX=>?_) (by assumption) ?_;rotate_left;(focus (go_simp<;>with_reducible rfl));simp only [Act.put,List.setIfInBounds_toArray,List.set_cons_zero,List.set_cons_succ]))
 exact h0.out):A:=k ⟨h⟩
structure Edg where
 fr:Int
 le:Int
 ta:Int
deriving DecidableEq
structure Sys where
 al:Int
 st:Int
 edges:List Edg
def zy:List Edg→List Value
 |[]=>[]
 |e :: r=>.int .i64 e.fr :: .int .i64 e.le :: .int .i64 e.ta :: zy r
theorem zam (l:List Edg):(zy l).length=l.length*3:=by
 induction l with
 |nil=>rfl
 |cons e r ih=>simp only [zy,List.length_cons,ih];omega
theorem zbo (l m:List Edg):zy (l++m)=zy l++zy m:=by
 induction l with
 |nil=>rfl
 |cons e r ih=>simp [zy,ih]
theorem zdq {l:List Edg} {k:Nat} {e:Edg}(h:l[k]?=some e):(zy l)[k*3]?=some (.int .i64 e.fr)∧(zy l)[k*3+1]?=some (.int .i64 e.le)∧(zy l)[k*3+2]?=some (.int .i64 e.ta):=by
 induction l generalizing k with
 |nil=>simp at h
 |cons a r ih =>
  cases k with
  |zero=>simp at h;subst h;exact⟨rfl,rfl,rfl⟩
  |succ k =>
   have:=ih (k:=k) (by simpa using h)
   have e1:(k+1)*3=k*3+1+1+1:=by omega
   refine⟨?_,?_,?_⟩<;>rw [e1]<;>simp only [zy,List.getElem?_cons_succ]
   ·exact this.1
   ·exact this.2.1
   ·exact this.2.2
theorem zeL {w:World} {ad:Addr} {v:Value}(h:w.cell? (ad.add 0)=some v):ad=⟨ad.block,ad.off,none⟩:=by
 rw [addr_zero] at h
 obtain⟨b,o,s⟩:=ad
 have hs:s=none:=World.cell?_spot h
 subst hs
 rfl
theorem Reads.edge {w:World} {lo hi n k:Nat} {A:Option Addr} {l:List Edg}(h:Reads w lo hi 3 A n (zy l))(hk:k<n) :
  ∃ b o e,A=some ⟨b,o,none⟩∧lo≤b∧b<hi∧Hid (l[k]?=some e)∧w.cell? ⟨b,o+k*3,none⟩=some (.int .i64 e.fr)∧w.cell? ⟨b,o+k*3+1,none⟩=some (.int .i64 e.le)∧w.cell? ⟨b,o+k*3+2,none⟩=some (.int .i64 e.ta):=by
 obtain⟨ad,eA,hl,hb,hc⟩:=h.at_ hk
 have hn:l.length=n:=by have:=h.length;rw [zam] at this;omega
 have hx:l[k]?=some l[k]:=List.getElem?_eq_getElem (by omega)
 have hg:=zdq hx
 have h0:=hc _ _ hg.1
 have h1:=hc _ _ hg.2.1
 have h2:=hc _ _ hg.2.2
 have hz:=zdq (k:=0) (List.getElem?_eq_getElem (l:=l) (by omega))
 rw [Nat.zero_mul] at hz
 have hs:=zeL (hc _ _ hz.1)
 rw [hs] at h0 h1 h2
 rw [zaE] at h0 h1 h2
 exact⟨ad.block,ad.off,l[k],by rw [eA,hs],hl,hb,hx,h0,by rw [Nat.add_assoc];exact h1,by rw [Nat.add_assoc];exact h2⟩
theorem Reads.edge2 {w:World} {lo hi n j b o:Nat} {l:List Edg} {e:Edg}(h:Reads w lo hi 3 (some ⟨b,o,none⟩) n (zy l))(he:l[j]?=some e) :
  w.cell? ⟨b,o+j*3,none⟩=some (.int .i64 e.fr)∧w.cell? ⟨b,o+j*3+1,none⟩=some (.int .i64 e.le)∧w.cell? ⟨b,o+j*3+2,none⟩=some (.int .i64 e.ta):=by
 have hj:j<l.length:=(List.getElem?_eq_some_iff.1 he).1
 have hn:l.length=n:=by have:=h.length;rw [zam] at this;omega
 obtain⟨ad,eA,_,_,hc⟩:=h.at_ (k:=j) (by omega)
 injection eA with eA
 subst eA
 have hg:=zdq he
 have h0:=hc _ _ hg.1
 have h1:=hc _ _ hg.2.1
 have h2:=hc _ _ hg.2.2
 rw [zaE] at h0 h1 h2
 exact⟨h0,by rw [Nat.add_assoc];exact h1,by rw [Nat.add_assoc];exact h2⟩
def zM (w:World) (lo hi:Nat) (A:Option Addr) (n:Nat) (s:Sys):Prop:=n=s.edges.length∧Reads w lo hi 3 A n (zy s.edges)
section
variable {w w':World} {lo hi n:Nat} {A:Option Addr} {s:Sys}
theorem zM.ext (h:zM w lo hi A n s)(hb:Ext w w'):zM w' lo hi A n s:=⟨h.1,h.2.ext hb⟩
theorem zM.frm {S:Nat→Prop}(h:zM w lo hi A n s)(hb:Frm S w w')(hS:∀ k,lo≤k→k<hi→¬ S k):zM w' lo hi A n s:=⟨h.1,h.2.frm hb hS⟩
theorem zM.more {lo' hi':Nat}(h:zM w lo hi A n s)(hL:lo'≤lo)(hH:hi≤hi'):zM w lo' hi' A n s:=⟨h.1,h.2.more hL hH⟩
end
theorem szEdgeS_any {A:Option Addr} {n c:Nat} {left:Int} {w:World}(hn:n≤9223372036854775807)(h0:0≤left)(h1:left≤1048576) :
  Calls Tryz.prog 55 #[.slice A n c,.int .i64 left] w fun e w'=>e=.returned (.int .i64 (leftOf left n))∧w=w':=by
 by_cases h:left - n<0
 all_goals
  go_enter Tryz.func55,Tryz.ntmps55
  go_wp2
  go_ret
  exact⟨zG (by unfold leftOf;split<;>omega),rfl⟩
theorem szSystem_any {A:Option Addr} {n c:Nat} {al st left:Int} {w:World}(hn:n≤9223372036854775807)(h0:0≤left)(h1:left≤1048576) :
  Calls Tryz.prog 15 #[.agg #[.int .i64 al,.int .i64 st,.slice A n c],.int .i64 left] w fun e w'=>e=.returned (.int .i64 (leftOf left n))∧Ext w w':=by
 have hg:=zgv left n
 by_cases h:leftOf left n<0
 all_goals
  go_enter Tryz.func15,Tryz.ntmps15
  go_wp2_with (go_at_call 55;refine (szEdgeS_any hn h0 h1).mono ?_;rintro e w' ⟨rfl,rfl⟩)
  go_ret
  exact⟨zG (by omega),(Ext.refl _).alloc _⟩
theorem toEdge_any {e:Edg} {w:World} :
  Calls Tryz.prog 120 #[.agg #[.int .i64 e.fr,.int .i64 e.le,.int .i64 e.ta]] w fun r w'=>r=.returned (.agg #[.int .i64 e.fr,.int .i64 e.le,.int .i64 e.ta])∧Ext w w':=by
 go_enter Tryz.func120,Tryz.ntmps120
 go_wp2
 refine bodyPost_ret (v:=.agg #[.int .i64 e.fr,.int .i64 e.le,.int .i64 e.ta]) (by simp [results,Tryz.results120,go_sem]) rfl ⟨rfl,?_⟩
 exact (((Ext.refl _).alloc _).alloc _).alloc _
theorem zgt:(Tryz.prog.info? 152).map (fun i=>(i.zero,i.size,i.bytes))=some (some (.agg #[.int .i64 0,.int .i64 0,.int .i64 0]),3,24):=by kernel_rfl
theorem zhD {w:World} {base n cap g:Nat} {e:TypeId} {xs:List Value}(h:w.ownsRow base e 3 (.slice (some ⟨g,0,none⟩) n cap) n xs) (j:Nat) (u v x:Value) :
  (((w.setCell ⟨g,j,none⟩ u).setCell ⟨g,j+1,none⟩ v).setCell ⟨g,j+2,none⟩ x).ownsRow base e 3 (.slice (some ⟨g,0,none⟩) n cap) n (((xs.set j u).set (j+1) v).set (j+2) x):=
 (((h.stored j u).1.stored (j+1) v).1.stored (j+2) x).1
theorem set3_edges {l:List Edg} {rest:List Value} {k:Nat} {e:Edg}(he:l[k]?=some e)(hr:3≤rest.length) :
  (((zy (l.take k)++rest).set (k*3) (.int .i64 e.fr)).set (k*3+1) (.int .i64 e.le)).set (k*3+2) (.int .i64 e.ta)=zy (l.take (k+1))++rest.drop 3:=by
 have hk:k<l.length:=(List.getElem?_eq_some_iff.1 he).1
 have hl:(zy (l.take k)).length=k*3:=by rw [zam,List.length_take,Nat.min_eq_left (by omega)]
 match rest,hr with
 |a :: b :: c :: r,_ =>
  rw [List.set_append_right _ _ (by omega),hl,Nat.sub_self,List.set_append_right _ _ (by omega),hl,List.set_append_right _ _ (by omega),hl,List.take_add_one,he,zbo]
  rw [show k*3+1 - k*3=1 from by omega,show k*3+2 - k*3=2 from by omega]
  simp [zy]
def OwnE (w:World) (base:Nat) (A:Option Addr) (n c:Nat) (l:List Edg):Prop:=n=l.length∧w.ownsRow base 152 3 (.slice A n c) n (zy l)
theorem OwnE.ext {w w':World} {base:Nat} {A:Option Addr} {n c:Nat} {l:List Edg}(h:OwnE w base A n c l)(hb:Ext w w'):OwnE w' base A n c l:=⟨h.1,zh h.2 hb⟩
theorem OwnE.keep {S:Nat→Prop} {w w':World} {base:Nat} {A:Option Addr} {n c:Nat} {l:List Edg}(h:OwnE w base A n c l)(hb:Frm S w w')(hS:∀ b,base≤b→¬ S b):OwnE w' base A n c l:=⟨h.1,zcn h.2 hb hS⟩
theorem OwnE.less {w:World} {base base':Nat} {A:Option Addr} {n c:Nat} {l:List Edg}(h:OwnE w base A n c l)(hb:base'≤base):OwnE w base' A n c l:=⟨h.1,zq h.2 hb⟩
theorem OwnE.reads {w:World} {base:Nat} {A:Option Addr} {n c:Nat} {s:Sys}(h:OwnE w base A n c s.edges):zM w base w.heap.size A n s:=⟨h.1,Reads.of_own h.2⟩
theorem toEdgeS_any {lo hi:Nat} {A:Option Addr} {n c:Nat} {l:List Edg} {w:World}(h:Reads w lo hi 3 A n (zy l))(hn:n≤1048576) :
  Calls Tryz.prog 59 #[.slice A n c] w fun e w'=>e=.returned (.slice (some ⟨w.heap.size,0,none⟩) n n)∧OwnE w' w.heap.size (some ⟨w.heap.size,0,none⟩) n n l∧Ext w w':=by
 have hl:l.length=n:=by have:=h.length;rw [zam] at this;omega
 have Hl:=za hl
 clear hl
 go_enter Tryz.func59,Tryz.ntmps59
 go_wp2_with (at_make;refine zar w _ rfl _ _ 36 rfl 152 _ 3 24 Tryz.underlying36 zgt _ _ n rfl rfl (Ext.refl _) (by omega) (by unfold maxLen;omega) ?_;intro w1 hext1 ziS _ hsz1)
 go_loopw [4] (fun i wr=>∃ k:Nat,k≤n∧i=.int .i64 k∧∃ rest:List Value,Hid (rest.length=(n - k)*3)∧wr.ownsRow w.heap.size 152 3 (.slice (some ⟨w.heap.size,0,none⟩) n n) n (zy (l.take k)++rest)∧Ext w wr)
  (fun i _=>n - (intOf i).toNat)
 case atStart=>exact⟨0,Nat.zero_le _,rfl,_,by have:=ziS.1;unfold Hid;rw [this];omega,by simpa [zy] using ziS,hext1⟩
 case round =>
  obtain⟨k,hk,rfl,rest,hrest,ziJ,ziL⟩:=hrel
  by_cases hlt:k<n
  ·obtain⟨b,o,e,rfl,hlo,hhi,he,c0,c1,c2⟩:=(h.ext ziL).edge hlt
   go_wp2_with (go_at_call 120;refine (toEdge_any (e:=e)).mono ?_;rintro r w2 ⟨rfl,hext2⟩;have hown':=zh ziJ hext2;obtain⟨o0,d0⟩:=zau hown' (k*3) (by omega);obtain⟨o1,d1⟩:=zau hown' (k*3+1) (by omega);obtain⟨o2,d2⟩:=zau hown' (k*3+2) (by omega);have f0:=hown'.frozenAt (k*3);have f1:=hown'.frozenAt (k*3+1);have f2:=hown'.frozenAt (k*3+2))
   have hst:=zhD hown' (k*3) (.int .i64 e.fr) (.int .i64 e.le) (.int .i64 e.ta)
   rw [set3_edges he.out (by have:=hrest.out;omega)] at hst
   go_roundw
   case rel=>exact⟨k+1,by omega,by go_num,rest.drop 3,by have:=hrest.out;unfold Hid;rw [List.length_drop];omega,hst,(((ziL.trans hext2).setCell (by dsimp only;omega) _).setCell (by dsimp only;omega) _).setCell (by dsimp only;omega) _⟩
   case measure=>simp [intOf];omega
  ·obtain rfl:k=n:=by omega
   go_wp2
   go_ret
   have:rest=[]:=List.eq_nil_of_length_eq_zero (by have:=hrest.out;omega)
   subst this
   rw [List.take_of_length_le (by have:=Hl.out;omega)] at ziJ
   exact⟨rfl,⟨Hl.out.symm,by simpa using ziJ⟩,ziL⟩
theorem zic {α:Type} [BEq α] [LawfulBEq α] {l m:List α} {k:Nat} {x y:α}(hx:l[k]?=some x)(hy:m[k]?=some y)(h:(x==y)=false):(l==m)=false:=by
 rw [beq_eq_false_iff_ne]
 rintro rfl
 rw [hx] at hy
 injection hy with hy
 subst hy
 simp at h
theorem zib {α:Type} [BEq α] [LawfulBEq α] {l m:List α} {k:Nat} {x y:α}(hx:l[k]?=some x)(hy:m[k]?=some y)(h:(x==y)=true)(hk:l.take k=m.take k):l.take (k+1)=m.take (k+1):=by
 rw [List.take_add_one,List.take_add_one,hx,hy,hk,eq_of_beq h]
theorem eq_end {α:Type} [BEq α] [LawfulBEq α] {l m:List α} {k:Nat}(h1:l.length≤k)(h2:m.length≤k)(hk:l.take k=m.take k):(l==m)=true:=by
 rw [List.take_of_length_le h1,List.take_of_length_le h2] at hk
 simp [hk]
theorem zia {α:Type} [BEq α] [LawfulBEq α] {l m:List α}(h:l.length≠m.length):(l==m)=false:=by
 rw [beq_eq_false_iff_ne]
 rintro rfl
 exact h rfl
theorem yC01a4 {P:Prop}(h:P:=by
 obtain rfl:k=n:=by omega
 go_wp2
 go_ret
 exact⟨zj (by rw [eq_end (by have:=Hl.out;omega) (by have:=Hl'.out;omega) heq.out]),ziL⟩
 ):P:=h
theorem eqIntS_any (lo hi lo' hi':Nat) (A:Option Addr) (n c:Nat) (B:Option Addr) (m d:Nat) (l l':List Int) (w:World)(h:Reads w lo hi 1 A n (ints l))(h':Reads w lo' hi' 1 B m (ints l')) :
  Calls Tryz.prog 123 #[.slice A n c,.slice B m d] w fun e w'=>e=.returned (.bool (l==l'))∧Ext w w':=by
 have hn:=h.len
 have hm:=h'.len
 have hl:l.length=n:=by have:=h.length;rw [zbU] at this;omega
 have hl':l'.length=m:=by have:=h'.length;rw [zbU] at this;omega
 have Hl:=za hl
 have Hl':=za hl'
 clear hl hl'
 by_cases he:n=m
 ·subst he
  go_enter Tryz.func123,Tryz.ntmps123
  go_wp2
  go_loopw [5] (fun i wr=>∃ k:Nat,k≤n∧i=.int .i64 k∧Hid (l.take k=l'.take k)∧Ext w wr) (fun i _=>n - (intOf i).toNat)
  case atStart=>exact⟨0,Nat.zero_le _,rfl,rfl,Ext.refl _⟩
  case round =>
   obtain⟨k,hk,rfl,heq,ziL⟩:=hrel
   by_cases hlt:k<n
   ·obtain⟨ad,x,rfl,_,_,hx,hc⟩:=(h.ext ziL).int hlt
    obtain⟨ad',y,rfl,_,_,hy,hc'⟩:=(h'.ext ziL).int hlt
    cases hb:x != y
    ·go_wp2
     go_quiet (fail)
     go_wp2
     go_roundw
     case rel=>exact⟨k+1,by omega,by go_num,zib hx.out hy.out (by simpa using hb) heq.out,ziL.drewN _⟩
     case measure=>simp [intOf];omega
    ·go_wp2
     go_quiet (fail)
     go_wp2
     go_ret
     exact⟨zj (by rw [zic hx.out hy.out (by simpa using hb)]),ziL.drewN _⟩
   ·exact yC01a4
 ·have hne:((n:Int) != (m:Int))=true:=by simp;omega
  go_enter Tryz.func123,Tryz.ntmps123
  go_wp2
  go_ret
  exact⟨zj (by rw [zia (by rw [Hl.out,Hl'.out];exact he)]),Ext.refl _⟩
theorem eqBoolS_any (lo hi lo' hi':Nat) (A:Option Addr) (n c:Nat) (B:Option Addr) (m d:Nat) (l l':List Bool) (w:World)(h:Reads w lo hi 1 A n (zP l))(h':Reads w lo' hi' 1 B m (zP l')) :
  Calls Tryz.prog 64 #[.slice A n c,.slice B m d] w fun e w'=>e=.returned (.bool (l==l'))∧Ext w w':=by
 have hn:=h.len
 have hm:=h'.len
 have hl:l.length=n:=by have:=h.length;rw [zaH] at this;omega
 have hl':l'.length=m:=by have:=h'.length;rw [zaH] at this;omega
 have Hl:=za hl
 have Hl':=za hl'
 clear hl hl'
 by_cases he:n=m
 ·subst he
  go_enter Tryz.func64,Tryz.ntmps64
  go_wp2
  go_loopw [5] (fun i wr=>∃ k:Nat,k≤n∧i=.int .i64 k∧Hid (l.take k=l'.take k)∧Ext w wr) (fun i _=>n - (intOf i).toNat)
  case atStart=>exact⟨0,Nat.zero_le _,rfl,rfl,Ext.refl _⟩
  case round =>
   obtain⟨k,hk,rfl,heq,ziL⟩:=hrel
   by_cases hlt:k<n
   ·obtain⟨ad,x,rfl,_,_,hx,hc⟩:=(h.ext ziL).bool hlt
    obtain⟨ad',y,rfl,_,_,hy,hc'⟩:=(h'.ext ziL).bool hlt
    cases hb:x==y
    ·go_wp2
     go_quiet (fail)
     go_wp2
     go_ret
     exact⟨zj (by rw [zic hx.out hy.out hb]),ziL.drewN _⟩
    ·go_wp2
     go_quiet (fail)
     go_wp2
     go_roundw
     case rel=>exact⟨k+1,by omega,by go_num,zib hx.out hy.out hb heq.out,ziL.drewN _⟩
     case measure=>simp [intOf];omega
   ·exact yC01a4
 ·have hne:((n:Int) != (m:Int))=true:=by simp;omega
  go_enter Tryz.func64,Tryz.ntmps64
  go_wp2
  go_ret
  exact⟨zj (by rw [zia (by rw [Hl.out,Hl'.out];exact he)]),Ext.refl _⟩
theorem yC01a3 {P:Prop}(h:P:=by
 go_roundw
 case rel=>exact⟨k+1,by omega,by go_num,zib hx.out hy.out Hb.out heq.out,ziL.trans (by assumption)⟩
 case measure=>simp [intOf];omega
 ):P:=h
theorem zgl (lo hi lo' hi':Nat) (A:Option Addr) (n c:Nat) (B:Option Addr) (m d:Nat) (l l':List (List Int)) (w:World)(h:zaw w lo hi A n l)(h':zaw w lo' hi' B m l') :
  Calls Tryz.prog 63 #[.slice A n c,.slice B m d] w fun e w'=>e=.returned (.bool (l==l'))∧Ext w w':=by
 have hn:=h.len
 have hm:=h'.len
 have Hl:=za h.1
 have Hl':=za h'.1
 by_cases he:n=m
 ·subst he
  go_enter Tryz.func63,Tryz.ntmps63
  go_wp2
  go_loopw [5] (fun i wr=>∃ k:Nat,k≤n∧i=.int .i64 k∧Hid (l.take k=l'.take k)∧Ext w wr) (fun i _=>n - (intOf i).toNat)
  case atStart=>exact⟨0,Nat.zero_le _,rfl,rfl,Ext.refl _⟩
  case round =>
   obtain⟨k,hk,rfl,heq,ziL⟩:=hrel
   by_cases hlt:k<n
   ·obtain⟨ad,Ak,ck,x,rfl,_,_,hx,hc,hrk⟩:=(h.ext ziL).row hlt
    obtain⟨ad',Bk,dk,y,rfl,_,_,hy,hc',hrk'⟩:=(h'.ext ziL).row hlt
    have hce:∀ W,Ext wr W→W.cell? (ad.add k)=some (.slice Ak x.length ck):=fun W hW=>hW.cell_some hc
    have hce':∀ W,Ext wr W→W.cell? (ad'.add k)=some (.slice Bk y.length dk):=fun W hW=>hW.cell_some hc'
    have hwr:=Ext.refl wr
    cases hb:x==y
    all_goals
     have Hb:=za hb
     clear hb
     go_wp2_with fail
     go_region_held3 (fun W=>Ext wr W) (first|assumption|(refine Ext.drew ?_;assumption)|(refine Ext.trans ?_ (by assumption);assumption)|(refine Ext.trans ?_ (by assumption);refine Ext.drew ?_;assumption)) ((go_at_call 123;refine (eqIntS_any _ _ _ _ _ _ _ _ _ _ _ _ _ (hrk.ext ?_) (hrk'.ext ?_)).mono ?_;assumption;assumption;rw [Hb.out];rintro e w3 ⟨rfl,hext3⟩))
     go_wp2
    ·go_ret
     exact⟨zj (by rw [zic hx.out hy.out Hb.out]),ziL.trans (by assumption)⟩
    ·exact yC01a3
   ·exact yC01a4
 ·have hne:((n:Int) != (m:Int))=true:=by simp;omega
  go_enter Tryz.func63,Tryz.ntmps63
  go_wp2
  go_ret
  exact⟨zj (by rw [zia (by rw [← Hl.out,← Hl'.out];exact he)]),Ext.refl _⟩
def autEq (a b:Aut):Bool:=decide (a.al=b.al)&&(a.next==b.next&&a.acc==b.acc)
theorem autEq_self (a:Aut):autEq a a=true:=by simp [autEq]
theorem zgk (lo hi lo' hi':Nat) (A:Option Addr) (n c:Nat) (A':Option Addr) (n' c':Nat) (B:Option Addr) (m d:Nat) (B':Option Addr) (m' d':Nat) (a b:Aut) (w:World)(h:zC w lo hi A n A' n' a)(h':zC w lo' hi' B m B' m' b) :
  Calls Tryz.prog 23 #[.agg #[.int .i64 a.al,.slice A n c,.slice A' n' c'],.agg #[.int .i64 b.al,.slice B m d,.slice B' m' d']] w fun e w'=>e=.returned (.bool (autEq a b))∧Ext w w':=by
 have hR:=fun W (hW:Ext w W)=>h.ext hW
 have HR:=za hR
 have hR':=fun W (hW:Ext w W)=>h'.ext hW
 have HR':=za hR'
 clear hR hR'
 by_cases h0:a.al=b.al
 ·have hne:(a.al != b.al)=false:=by simp [h0]
  have H0:=za h0
  clear h0
  cases h1:a.next==b.next
  ·have H1:=za h1
   clear h1
   go_enter Tryz.func23,Tryz.ntmps23
   go_wp2_with (go_at_call 63;refine (zgl _ _ _ _ _ _ _ _ _ _ _ _ _ (HR.out _ ?_).1 (HR'.out _ ?_).1).mono ?_;exact ((Ext.refl _).alloc _).alloc _;exact ((Ext.refl _).alloc _).alloc _;rw [H1.out];rintro e w2 ⟨rfl,hext2⟩;obtain⟨b1,b2⟩:=zE hext2;have c1:=b1.cell;have c2:=b2.cell)
   go_ret
   exact⟨zj (by rw [autEq,H1.out];simp),(((Ext.refl _).alloc _).alloc _).trans hext2⟩
  ·have H1:=za h1
   clear h1
   go_enter Tryz.func23,Tryz.ntmps23
   go_wp2_with (first
    |(go_at_call 63;refine (zgl _ _ _ _ _ _ _ _ _ _ _ _ _ (HR.out _ ?_).1 (HR'.out _ ?_).1).mono ?_;exact ((Ext.refl _).alloc _).alloc _;exact ((Ext.refl _).alloc _).alloc _;rw [H1.out];rintro e w2 ⟨rfl,hext2⟩;obtain⟨b1,b2⟩:=zE hext2;have c1:=b1.cell;have c2:=b2.cell)
    |(go_at_call 64;refine (eqBoolS_any _ _ _ _ _ _ _ _ _ _ _ _ _ (HR.out _ ?_).2.2 (HR'.out _ ?_).2.2).mono ?_;exact (((Ext.refl _).alloc _).alloc _).trans hext2;exact (((Ext.refl _).alloc _).alloc _).trans hext2;rintro e w3 ⟨rfl,hext3⟩))
   all_goals go_ret
   all_goals exact⟨zj (by rw [autEq,H1.out,H0.out];simp_all),((((Ext.refl _).alloc _).alloc _).trans hext2).trans hext3⟩
 ·have hne:(a.al != b.al)=true:=by simp [h0]
  go_enter Tryz.func23,Tryz.ntmps23
  go_wp2
  go_ret
  exact⟨zj (by rw [autEq];simp [h0]),((Ext.refl _).alloc _).alloc _⟩
def RetSys (w:World) (s:Sys) (e:Ending) (w':World):Prop:=
 ∃ A n c,e=.returned (.agg #[.int .i64 s.al,.int .i64 s.st,.slice A n c])∧OwnE w' w.heap.size A n c s.edges∧Ext w w'
theorem toSystem_any {lo hi:Nat} {A:Option Addr} {n c:Nat} {s:Sys} {w:World}(h:zM w lo hi A n s)(hn:n≤1048576) :
  Calls Tryz.prog 18 #[.agg #[.int .i64 s.al,.int .i64 s.st,.slice A n c]] w (RetSys w s):=by
 have hR:=fun W (hW:Ext w W)=>h.2.ext hW
 have HR:=za hR
 clear hR
 go_enter Tryz.func18,Tryz.ntmps18
 go_wp2_with (go_at_call 59;refine (toEdgeS_any (HR.out _ ?_) hn).mono ?_;exact (((Ext.refl _).alloc _).alloc _).alloc _;rintro e w2 ⟨rfl,ziT,hext2⟩;obtain⟨b1,b2,b3⟩:=zK hext2;have c1:=b1.cell;have c2:=b2.cell;have c3:=b3.cell;have f2:=b2.frozen;have f3:=b3.frozen;have hx2:=((((Ext.refl w).alloc _).alloc _).alloc _).trans hext2)
 have z2:=hext2.size
 simp only [World.size_alloc] at z2 ziT
 refine bodyPost_ret (v:=.agg #[.int .i64 s.al,.int .i64 s.st,.slice (some ⟨w.heap.size+1+1+1,0,none⟩) n n]) (by simp [results,Tryz.results18,go_sem,c2]) rfl ⟨_,_,_,rfl,?_,?_⟩
 ·refine (ziT.keep (S:=fun k=>k<w.heap.size+3) ?_ (by intro b hb;omega)).less (by omega)
  iterate 4 refine Frm.cell ?_ (by dsimp only;omega) _
  exact Frm.refl _ _
 ·iterate 4 refine Ext.setCell ?_ (by dsimp only;omega) _
  exact hx2
instance:BEq Edg:=⟨fun a b=>decide (a.fr=b.fr)&&(decide (a.le=b.le)&&decide (a.ta=b.ta))⟩
theorem edg_beq (a b:Edg):(a==b)=(decide (a.fr=b.fr)&&(decide (a.le=b.le)&&decide (a.ta=b.ta))):=rfl
instance:LawfulBEq Edg where
 eq_of_beq {a b} h:=by
  rw [edg_beq] at h
  simp only [Bool.and_eq_true,decide_eq_true_eq] at h
  cases a;cases b;simp_all
 rfl {a}:=by rw [edg_beq];simp
theorem eqEdge_any {a b:Edg} {w:World} :
  Calls Tryz.prog 122 #[.agg #[.int .i64 a.fr,.int .i64 a.le,.int .i64 a.ta],.agg #[.int .i64 b.fr,.int .i64 b.le,.int .i64 b.ta]] w fun e w'=>e=.returned (.bool (a==b))∧Ext w w':=by
 have hx:Ext w ((w.alloc (.cells #[Value.int .i64 a.fr,.int .i64 a.le,.int .i64 a.ta] 152)).alloc (.cells #[Value.int .i64 b.fr,.int .i64 b.le,.int .i64 b.ta] 152)):=((Ext.refl _).alloc _).alloc _
 have Hx:=za hx
 clear hx
 have He:=za (edg_beq a b)
 by_cases h0:a.fr=b.fr
 ·have n0:(a.fr != b.fr)=false:=by simp [h0]
  have H0:=za h0
  clear h0
  by_cases h1:a.le=b.le
  ·have n1:(a.le != b.le)=false:=by simp [h1]
   have H1:=za h1
   clear h1
   by_cases h2:a.ta=b.ta
   ·have n2:(a.ta != b.ta)=false:=by simp [h2]
    have H2:=za h2
    clear h2
    go_enter Tryz.func122,Tryz.ntmps122
    go_wp2
    go_ret
    exact⟨zj (by rw [He.out,H0.out,H1.out,H2.out];simp),Hx.out⟩
   ·have n2:(a.ta != b.ta)=true:=by simp [h2]
    go_enter Tryz.func122,Tryz.ntmps122
    go_wp2
    go_ret
    exact⟨zj (by rw [He.out];simp [h2]),Hx.out⟩
  ·have n1:(a.le != b.le)=true:=by simp [h1]
   go_enter Tryz.func122,Tryz.ntmps122
   go_wp2
   go_ret
   exact⟨zj (by rw [He.out];simp [h1]),Hx.out⟩
 ·have n0:(a.fr != b.fr)=true:=by simp [h0]
  go_enter Tryz.func122,Tryz.ntmps122
  go_wp2
  go_ret
  exact⟨zj (by rw [He.out];simp [h0]),Hx.out⟩
theorem eqEdgeS_any {lo hi lo' hi':Nat} {A:Option Addr} {n c:Nat} {B:Option Addr} {m d:Nat} {l l':List Edg} {w:World}(h:Reads w lo hi 3 A n (zy l))(h':Reads w lo' hi' 3 B m (zy l')) :
  Calls Tryz.prog 62 #[.slice A n c,.slice B m d] w fun e w'=>e=.returned (.bool (l==l'))∧Ext w w':=by
 have hn:=h.len
 have hm:=h'.len
 have Hl:=za (show l.length=n by have:=h.length;rw [zam] at this;omega)
 have Hl':=za (show l'.length=m by have:=h'.length;rw [zam] at this;omega)
 by_cases he:n=m
 ·subst he
  go_enter Tryz.func62,Tryz.ntmps62
  go_wp2
  go_loopw [5] (fun i wr=>∃ k:Nat,k≤n∧i=.int .i64 k∧Hid (l.take k=l'.take k)∧Ext w wr) (fun i _=>n - (intOf i).toNat)
  case atStart=>exact⟨0,Nat.zero_le _,rfl,rfl,Ext.refl _⟩
  case round =>
   obtain⟨k,hk,rfl,heq,ziL⟩:=hrel
   by_cases hlt:k<n
   ·obtain⟨b,o,x,rfl,_,_,hx,c0,c1,c2⟩:=(h.ext ziL).edge hlt
    obtain⟨b',o',y,rfl,_,_,hy,d0,d1,d2⟩:=(h'.ext ziL).edge hlt
    have e0:∀ W,Ext wr W→W.cell? ⟨b,o+k*3,none⟩=some (.int .i64 x.fr):=fun W hW=>hW.cell_some c0
    have e1:∀ W,Ext wr W→W.cell? ⟨b,o+k*3+1,none⟩=some (.int .i64 x.le):=fun W hW=>hW.cell_some c1
    have e2:∀ W,Ext wr W→W.cell? ⟨b,o+k*3+2,none⟩=some (.int .i64 x.ta):=fun W hW=>hW.cell_some c2
    have g0:∀ W,Ext wr W→W.cell? ⟨b',o'+k*3,none⟩=some (.int .i64 y.fr):=fun W hW=>hW.cell_some d0
    have g1:∀ W,Ext wr W→W.cell? ⟨b',o'+k*3+1,none⟩=some (.int .i64 y.le):=fun W hW=>hW.cell_some d1
    have g2:∀ W,Ext wr W→W.cell? ⟨b',o'+k*3+2,none⟩=some (.int .i64 y.ta):=fun W hW=>hW.cell_some d2
    clear c0 c1 c2 d0 d1 d2
    have hwr:=Ext.refl wr
    cases hb:x==y
    all_goals
     have Hb:=za hb
     clear hb
     go_wp2_with fail
     go_region_held3 (fun W=>Ext wr W) (first|assumption|(refine Ext.drew ?_;assumption)|(refine Ext.trans ?_ (by assumption);assumption)|(refine Ext.trans ?_ (by assumption);refine Ext.drew ?_;assumption)) ((go_at_call 122;refine (eqEdge_any (a:=x) (b:=y)).mono ?_;rw [Hb.out];rintro e w3 ⟨rfl,hext3⟩))
     go_wp2
    ·go_ret
     exact⟨zj (by rw [zic hx.out hy.out Hb.out]),ziL.trans (by assumption)⟩
    ·exact yC01a3
   ·exact yC01a4
 ·have hne:((n:Int) != (m:Int))=true:=by simp;omega
  go_enter Tryz.func62,Tryz.ntmps62
  go_wp2
  go_ret
  exact⟨zj (by rw [zia (by rw [Hl.out,Hl'.out];exact he)]),Ext.refl _⟩
def sysEq (s t:Sys):Bool:=decide (s.al=t.al)&&(decide (s.st=t.st)&&s.edges==t.edges)
theorem sysEq_self (s:Sys):sysEq s s=true:=by simp [sysEq]
theorem eqSystem_any {lo hi lo' hi':Nat} {A:Option Addr} {n c:Nat} {B:Option Addr} {m d:Nat} {s t:Sys} {w:World}(h:zM w lo hi A n s)(h':zM w lo' hi' B m t) :
  Calls Tryz.prog 22 #[.agg #[.int .i64 s.al,.int .i64 s.st,.slice A n c],.agg #[.int .i64 t.al,.int .i64 t.st,.slice B m d]] w fun e w'=>e=.returned (.bool (sysEq s t))∧Ext w w':=by
 have hR:=fun W (hW:Ext w W)=>h.2.ext hW
 have HR:=za hR
 have hR':=fun W (hW:Ext w W)=>h'.2.ext hW
 have HR':=za hR'
 clear hR hR'
 by_cases h0:s.al=t.al
 ·have n0:(s.al != t.al)=false:=by simp [h0]
  have H0:=za h0
  clear h0
  by_cases h1:s.st=t.st
  ·have n1:(s.st != t.st)=false:=by simp [h1]
   have H1:=za h1
   clear h1
   cases h2:s.edges==t.edges
   all_goals
    have H2:=za h2
    clear h2
    go_enter Tryz.func22,Tryz.ntmps22
    go_wp2_with (go_at_call 62;refine (eqEdgeS_any (HR.out _ ?_) (HR'.out _ ?_)).mono ?_;exact ((Ext.refl _).alloc _).alloc _;exact ((Ext.refl _).alloc _).alloc _;rw [H2.out];rintro e w2 ⟨rfl,hext2⟩)
    go_ret
    exact⟨zj (by rw [sysEq,H0.out,H1.out,H2.out];simp),(((Ext.refl _).alloc _).alloc _).trans hext2⟩
  ·have n1:(s.st != t.st)=true:=by simp [h1]
   go_enter Tryz.func22,Tryz.ntmps22
   go_wp2
   go_ret
   exact⟨zj (by rw [sysEq];simp [h1]),((Ext.refl _).alloc _).alloc _⟩
 ·have n0:(s.al != t.al)=true:=by simp [h0]
  go_enter Tryz.func22,Tryz.ntmps22
  go_wp2
  go_ret
  exact⟨zj (by rw [sysEq];simp [h0]),((Ext.refl _).alloc _).alloc _⟩
def zha (w:World) (lo hi:Nat) (A:Option Addr) (n:Nat) (ss:List Sys):Prop:=
 n=ss.length∧∃ cells,Reads w lo hi 3 A n cells∧∀ (k:Nat) (s:Sys),ss[k]?=some s→∃ (B:Option Addr) (m c:Nat),cells[k*3]?=some (.int .i64 s.al)∧cells[k*3+1]?=some (.int .i64 s.st)∧cells[k*3+2]?=some (.slice B m c)∧zM w lo hi B m s
section
variable {w w':World} {lo hi n k:Nat} {A:Option Addr} {ss:List Sys}
theorem zha.ext (h:zha w lo hi A n ss)(hb:Ext w w'):zha w' lo hi A n ss:=by
 obtain⟨e,cells,hr,hx⟩:=h
 refine⟨e,cells,hr.ext hb,fun k s hs=>?_⟩
 obtain⟨B,m,c,h0,h1,h2,h3⟩:=hx k s hs
 exact⟨B,m,c,h0,h1,h2,h3.ext hb⟩
theorem zha.len (h:zha w lo hi A n ss):n≤9223372036854775807:=by
 obtain⟨_,cells,hr,_⟩:=h
 exact hr.len
theorem zhG {xs:List Value} {u:Value}(h:Reads w lo hi 3 A n xs)(hn:0<n)(hu:xs[0]?=some u):∃ b o,A=some ⟨b,o,none⟩∧lo≤b∧b<hi∧∀ j v,xs[j]?=some v→w.cell? ⟨b,o+j,none⟩=some v:=by
 obtain⟨ad,e,hl,hb,hc⟩:=h.at_ hn
 have hs:=zeL (hc 0 u hu)
 refine⟨ad.block,ad.off,by rw [e,hs],hl,hb,fun j v hv=>?_⟩
 have:=hc j v hv
 rw [hs,zaE] at this
 exact this
theorem zha.sys (h:zha w lo hi A n ss)(hk:k<n):∃ b o s B m c,A=some ⟨b,o,none⟩∧lo≤b∧b<hi∧Hid (ss[k]?=some s)∧w.cell? ⟨b,o+k*3,none⟩=some (.int .i64 s.al)∧w.cell? ⟨b,o+k*3+1,none⟩=some (.int .i64 s.st)∧w.cell? ⟨b,o+k*3+2,none⟩=some (.slice B m c)∧zM w lo hi B m s:=by
 obtain⟨e,cells,hr,hx⟩:=h
 have h0:ss[0]?=some (ss[0]'(by omega)):=List.getElem?_eq_getElem _
 obtain⟨_,_,_,z0,_⟩:=hx 0 _ h0
 rw [Nat.zero_mul] at z0
 obtain⟨b,o,rfl,hl,hb,hc⟩:=zhG hr (by omega) z0
 have hs:ss[k]?=some (ss[k]'(by omega)):=List.getElem?_eq_getElem _
 obtain⟨B,m,c,h0,h1,h2,h3⟩:=hx k _ hs
 exact⟨b,o,_,B,m,c,rfl,hl,hb,hs,hc _ _ h0,by rw [Nat.add_assoc];exact hc _ _ h1,by rw [Nat.add_assoc];exact hc _ _ h2,h3⟩
end
end Go.Proofs.YtcfchopfijalpaaGreatDoor
namespace Go.Proofs.YtcfchopfijalpaaGreatDoor
open Go Go.RowKit Go.ChangeShapes Go.WideShapes Go.Deep
section
variable {H:Type} {enc:TypeId × Value→H} {P:Program} {w:World} {spare:Nat→Bool} {held:Bool}
theorem open_three {t e:TypeId} {fuel:Nat} {cs:List Value} {x:DataW H × List MemPlace}(ht:P.underlying t=some (.slice e))(hc:P.cellsOf e=3)(h:DataW.trod enc P w 0 spare held fuel t cs=some x) :
  ∃ (A:Option Addr) (n c:Nat) (V:Nat→Value) (k:Nat),cs=[.slice A n c]∧Reads w 0 w.heap.size 3 A n ((List.range (n*3)).map V)∧∀ i,i<n→∃ y,DataW.trod enc P w 0 spare held k e [V (i*3),V (i*3+1),V (i*3+2)]=some y:=by
 rcases open_slice ht h with ⟨rfl,_⟩|⟨a,len,cap,m,n,D,Pl,rfl,hb,hl,hm,hmm,_,hx⟩
 ·exact⟨none,0,0,fun _=>undef,0,rfl,Reads.nil,fun i hi=>by omega⟩
 ·have hlm:len≤m:=by rw [hmm];split<;>omega
  rw [hc] at hx
  have hcell:∀ i j,i<len→j<3→(w.cell? (a.add (i*3+j))).isSome=true:=fun i j hi hj=>by
   obtain⟨cs',h1,h2⟩:=hx i (by omega)
   obtain⟨_,hn,hg⟩:=World.cells?_some h1
   rw [← addr_add,hg j hj,List.getElem?_eq_getElem (by omega)]
   rfl
  have hV:∀ q,q<len*3→w.cell? (a.add q)=some ((w.cell? (a.add q)).getD undef):=fun q hq=>by
   have h1:=hcell (q / 3) (q % 3) (by omega) (by omega)
   rw [show q / 3*3+q % 3=q by omega] at h1
   obtain⟨v,hv⟩:=Option.isSome_iff_exists.1 h1
   rw [hv];rfl
  refine⟨some a,len,cap,fun q=>(w.cell? (a.add q)).getD undef,n,rfl,⟨by simp,by unfold maxLen at hm;omega,fun h0=>?_⟩,fun i hi=>?_⟩
  ·have hblk:a.block<w.heap.size:=by
    have:=World.block_lt_of_cell? w _ (hV 0 (by omega))
    rwa [zfo] at this
   refine⟨a,rfl,Nat.zero_le _,hblk,fun j u hu=>?_⟩
   have hj:j<len*3:=by
    have:=(List.getElem?_eq_some_iff.1 hu).1
    simpa using this
   rw [hV j hj]
   simpa [hj] using hu
  ·obtain⟨cs',h1,h2⟩:=hx i (by omega)
   obtain⟨_,hn,hg⟩:=World.cells?_some h1
   refine⟨(D i,Pl i),?_⟩
   rw [← h2]
   congr 1
   match cs',hn with
   |[v0,v1,v2],_ =>
    have e0:=hg 0 (by omega)
    have e1:=hg 1 (by omega)
    have e2:=hg 2 (by omega)
    rw [addr_add] at e0 e1 e2
    rw [Nat.add_zero] at e0
    simp only [e0,e1,e2]
    rfl
theorem zfE (V:Nat→Value):∀ n:Nat,(∀ i,i<n→∃ a b c:Int,V (i*3)=.int .i64 a∧V (i*3+1)=.int .i64 b∧V (i*3+2)=.int .i64 c)→∃ l:List Edg,l.length=n∧(List.range (n*3)).map V=zy l
 |0,_=>⟨[],rfl,rfl⟩
 |n+1,h=>by
  obtain⟨l,hl,he⟩:=zfE V n fun i hi=>h i (by omega)
  obtain⟨a,b,c,ha,hb,hc⟩:=h n (by omega)
  refine⟨l++[⟨a,b,c⟩],by simp [hl],?_⟩
  rw [show (n+1)*3=n*3+1+1+1 by omega,List.range_succ,List.range_succ,List.range_succ,zbo,← he]
  simp [ha,hb,hc,zy]
theorem open_edges {t e:TypeId} {g0 g1 g2:Field} {fuel:Nat} {cs:List Value} {x:DataW H × List MemPlace}(ht:P.underlying t=some (.slice e))(hc:P.cellsOf e=3)(he:P.underlying e=some (.struct #[g0,g1,g2]))
  (p0:g0.offset=0) (p1:g1.offset=1) (p2:g2.offset=2) (d0:P.cellsOf g0.type=1) (d1:P.cellsOf g1.type=1) (d2:P.cellsOf g2.type=1)
  (v0:P.underlying g0.type=some (.int .i64)) (v1:P.underlying g1.type=some (.int .i64)) (v2:P.underlying g2.type=some (.int .i64))
  (h:DataW.trod enc P w 0 spare held fuel t cs=some x) :
  ∃ (A:Option Addr) (n c:Nat) (l:List Edg),cs=[.slice A n c]∧n=l.length∧Reads w 0 w.heap.size 3 A n (zy l):=by
 obtain⟨A,n,c,V,k,rfl,hr,hV⟩:=open_three ht hc h
 obtain⟨l,hl,hm⟩:=zfE V n fun i hi=>by
  obtain⟨y,hy⟩:=hV i hi
  obtain⟨y0,y1,y2,k,_,_,h0,h1,h2⟩:=trod_struct3 he hy
  rw [p0,d0] at h0
  rw [p1,d1] at h1
  rw [p2,d2] at h2
  obtain⟨a,e0,_⟩:=DataW.trod_int v0 h0
  obtain⟨b,e1,_⟩:=DataW.trod_int v1 h1
  obtain⟨c,e2,_⟩:=DataW.trod_int v2 h2
  simp at e0 e1 e2
  exact⟨a,b,c,e0,e1,e2⟩
 rw [hm] at hr
 exact⟨A,n,c,l,rfl,hl.symm,hr⟩
theorem open_sys {t e:TypeId} {f0 f1 f2 g0 g1 g2:Field} {fuel:Nat} {cs:List Value} {x:DataW H × List MemPlace}(hT:P.underlying t=some (.struct #[f0,f1,f2]))(hC:P.cellsOf t=3)
  (o0:f0.offset=0) (o1:f1.offset=1) (o2:f2.offset=2) (c0:P.cellsOf f0.type=1) (c1:P.cellsOf f1.type=1) (c2:P.cellsOf f2.type=1)
  (u0:P.underlying f0.type=some (.int .i64)) (u1:P.underlying f1.type=some (.int .i64)) (u2:P.underlying f2.type=some (.slice e)) (hc:P.cellsOf e=3) (he:P.underlying e=some (.struct #[g0,g1,g2]))
  (p0:g0.offset=0) (p1:g1.offset=1) (p2:g2.offset=2) (d0:P.cellsOf g0.type=1) (d1:P.cellsOf g1.type=1) (d2:P.cellsOf g2.type=1)
  (v0:P.underlying g0.type=some (.int .i64)) (v1:P.underlying g1.type=some (.int .i64)) (v2:P.underlying g2.type=some (.int .i64))
  (h:DataW.trod enc P w 0 spare held fuel t cs=some x) :
  ∃ (s:Sys) (A:Option Addr) (n c:Nat),cs=[.int .i64 s.al,.int .i64 s.st,.slice A n c]∧zM w 0 w.heap.size A n s:=by
 obtain⟨y0,y1,y2,k,_,hl,h0,h1,h2⟩:=trod_struct3 hT h
 rw [hC] at hl
 match cs,hl with
 |[z0,z1,z2],_ =>
  rw [o0,c0] at h0
  rw [o1,c1] at h1
  rw [o2,c2] at h2
  obtain⟨al,e0,_⟩:=DataW.trod_int u0 h0
  obtain⟨st,e1,_⟩:=DataW.trod_int u1 h1
  obtain⟨A,n,c,l,e2,hn,hr⟩:=open_edges u2 hc he p0 p1 p2 d0 d1 d2 v0 v1 v2 h2
  simp at e0 e1 e2
  subst e0;subst e1;subst e2
  exact⟨⟨al,st,l⟩,A,n,c,rfl,hn,hr⟩
end
end Go.Proofs.YtcfchopfijalpaaGreatDoor
namespace Go.Proofs.YtcfchopfijalpaaGreatDoor
open Go Go.ChangeShapes Go.WideShapes Go.ChangeAt Go.RowKit Go.Deep
theorem own_:ownKnob Tryz.prog.godebug=none:=by kernel_rfl
theorem laidOut_:laidOutB Tryz.prog=true:=by kernel_rfl
theorem ziq {H:Type} {enc:TypeId × Value→H} {w:World} {spare:Nat→Bool} {held:Bool} {fuel:Nat} {cs:List Value} {x:DataW H × List MemPlace}(h:DataW.trod enc Tryz.prog w 0 spare held fuel 28 cs=some x) :
  ∃ (a:Aut) (A:Option Addr) (n c:Nat) (A':Option Addr) (n' c':Nat),cs=[.int .i64 a.al,.slice A n c,.slice A' n' c']∧zC w 0 w.heap.size A n A' n' a:=
 open_aut Tryz.underlying28 (by kernel_rfl) rfl rfl rfl (by kernel_rfl) (by kernel_rfl) (by kernel_rfl) Tryz.underlying3 Tryz.underlying25 Tryz.underlying128 Tryz.underlying3 (by kernel_rfl) (by kernel_rfl) Tryz.underlying26 Tryz.underlying4 (by kernel_rfl) h
theorem zir {H:Type} {enc:TypeId × Value→H} {w:World} {spare:Nat→Bool} {held:Bool} {fuel:Nat} {cs:List Value} {x:DataW H × List MemPlace}(h:DataW.trod enc Tryz.prog w 0 spare held fuel 24 cs=some x) :
  ∃ (s:Sys) (A:Option Addr) (n c:Nat),cs=[.int .i64 s.al,.int .i64 s.st,.slice A n c]∧zM w 0 w.heap.size A n s:=
 open_sys Tryz.underlying24 (by kernel_rfl) rfl rfl rfl (by kernel_rfl) (by kernel_rfl) (by kernel_rfl) Tryz.underlying3 Tryz.underlying3 Tryz.underlying22 (by kernel_rfl) Tryz.underlying154 rfl rfl rfl (by kernel_rfl) (by kernel_rfl) (by kernel_rfl) Tryz.underlying3 Tryz.underlying3 Tryz.underlying3 h
theorem array3 {α:Type} {cs:Array α}(h:cs.size=3):∃ c0 c1 c2,cs=#[c0,c1,c2]:=by
 obtain⟨l⟩:=cs
 match l,h with
 |[c0,c1,c2],_=>exact⟨c0,c1,c2,rfl⟩
theorem arg_aut {H:Type} {enc:TypeId × Value→H} {w:World} {spare:Nat→Bool} {held:Bool} {r:Reach} {b0:Nat} {v:Value} {d:DataW H} {p:List MemPlace}(hv:Value.okWide Tryz.prog w r b0 28 v)(h:DataW.Trod enc Tryz.prog w 0 spare held 28 v d p) :
  ∃ (a:Aut) (A:Option Addr) (n c:Nat) (A':Option Addr) (n' c':Nat),v=.agg #[.int .i64 a.al,.slice A n c,.slice A' n' c']∧zC w 0 w.heap.size A n A' n' a:=by
 obtain⟨cs,rfl,hsz⟩:=okWide_struct Tryz.underlying28 hv
 obtain⟨c0,c1,c2,rfl⟩:=array3 (hsz.trans (by kernel_rfl))
 obtain⟨fuel,hf⟩:=h
 obtain⟨a,A,n,c,A',n',c',e1,hr⟩:=ziq hf
 simp [Value.cells] at e1
 obtain⟨rfl,rfl,rfl⟩:=e1
 exact⟨a,A,n,c,A',n',c',rfl,hr⟩
theorem arg_sys {H:Type} {enc:TypeId × Value→H} {w:World} {spare:Nat→Bool} {held:Bool} {r:Reach} {b0:Nat} {v:Value} {d:DataW H} {p:List MemPlace}(hv:Value.okWide Tryz.prog w r b0 24 v)(h:DataW.Trod enc Tryz.prog w 0 spare held 24 v d p) :
  ∃ (s:Sys) (A:Option Addr) (n c:Nat),v=.agg #[.int .i64 s.al,.int .i64 s.st,.slice A n c]∧zM w 0 w.heap.size A n s:=by
 obtain⟨cs,rfl,hsz⟩:=okWide_struct Tryz.underlying24 hv
 obtain⟨c0,c1,c2,rfl⟩:=array3 (hsz.trans (by kernel_rfl))
 obtain⟨fuel,hf⟩:=h
 obtain⟨a,A,n,c,e1,hr⟩:=zir hf
 simp [Value.cells] at e1
 obtain⟨rfl,rfl,rfl⟩:=e1
 exact⟨a,A,n,c,rfl,hr⟩
theorem and_t {a b:Bool}(h:a=true) (k:b=true):(a&&b)=true:=by rw [h,k];rfl
end Go.Proofs.YtcfchopfijalpaaGreatDoor
namespace Go.Proofs.YtcfchopfijalpaaGreatDoor
open Go Go.RowKit
def Tab (w:World):Prop:=∀ j,j<64→w.cell? ⟨1,j,none⟩=some (.int .u8 (Lib.deBruijn64tab.getD j 0))
theorem Tab.ext {w w':World}(h:Tab w)(hb:Ext w w'):Tab w':=fun j hj=>hb.cell_some (h j hj)
theorem tz64_core (x k idx:Nat) (w:World)(hx0:((x:Int)==0)=false)
  (key:IntKind.u64.wrap (bits BinOp.and IntKind.u64 (x:Int) (IntKind.u64.wrap (-(x:Int)))*285870213051353865) / 288230376151711744=(idx:Int))
  (hi:idx<64) (hk:k<64) (hcell:w.cell? ⟨1,idx,none⟩=some (.int .u8 k)) :
  Calls Tryz.prog 285 #[.int .u64 x] w fun e w'=>e=.returned (.int .i64 k)∧w=w':=by
 go_enter Tryz.func285,Tryz.ntmps285
 go_wp2_with (simp only [key])
 go_ret
 exact⟨rfl,rfl⟩
theorem tz64 (x:Nat)(hx:x<18446744073709551616)(hx0:x≠0) (w:World)(hT:Tab w) :
  Calls Tryz.prog 285 #[.int .u64 x] w fun e w'=>e=.returned (.int .i64 (Lib.ctz 64 x))∧w=w':=by
 obtain⟨hlow,hk⟩:=Lib.lowest_bit 64 x hx0 hx
 obtain⟨hi,htab⟩:=Lib.deBruijn64_at _ hk
 have hcell:=hT _ hi
 rw [htab] at hcell
 exact tz64_core x _ _ w (by simp;omega) (tz64_key x _ hx hx0 hlow) hi hk hcell
theorem tz (x:Nat)(hx:x<18446744073709551616)(hx0:x≠0) (w:World)(hT:Tab w) :
  Calls Tryz.prog 276 #[.int .u64 x] w fun e w'=>e=.returned (.int .i64 (Lib.ctz 64 x))∧w=w':=by
 go_enter Tryz.func276,Tryz.ntmps276
 go_wp2_with (go_at_call 285;refine (tz64 x hx hx0 w hT).mono ?_;rintro e w' ⟨rfl,rfl⟩)
 go_ret
 exact⟨rfl,rfl⟩
theorem tab_head {W : World} {rest : List (String × DataW Unit)} (h : laidMet Tryz.prog (("math/bits.deBruijn64tab", Rows.laid_math_bits_deBruijn64tab) :: rest) W) : Tab W := by
 have h1 : Lib.TabIs Tryz.prog W "math/bits.deBruijn64tab" .u8 (Lib.deBruijn64tab.map fun n : Nat => (n : Int)) :=
  Lib.tabIs_of_head (g:=1) (t:=295) (e:=5) (by kernel_rfl) (by kernel_rfl) Tryz.underlying295 Tryz.underlying5 (by kernel_rfl) (by kernel_rfl) h
 intro j hj
 have:=h1.cell (g:=1) (by kernel_rfl) j (by rw [List.length_map];exact hj)
 rw [this,List.getD_eq_getElem?_getD,List.getElem?_map,List.getD_eq_getElem?_getD]
 have hl:Lib.deBruijn64tab.length=64:=rfl
 rw [List.getElem?_eq_getElem (by omega)]
 rfl
theorem tab_two {W : World} {rest : List (String × DataW Unit)} (h : laidMet Tryz.prog (("math/bits.deBruijn32tab", Rows.laid_math_bits_deBruijn32tab) :: ("math/bits.deBruijn64tab", Rows.laid_math_bits_deBruijn64tab) :: rest) W) : Tab W := tab_head (laidMet.tail h)
abbrev zbv:=Nat→World→(Nat→Prop)→Prop
structure zbv.Ok (b0:Nat) (J:zbv):Prop where
 lt:∀ {B:Nat} {W:World} {S:Nat→Prop},J B W S→∀ k,S k→k<W.heap.size
 low:∀ {B:Nat} {W:World} {S:Nat→Prop},J B W S→∀ k,S k→b0≤k
 keep:∀ {B:Nat} {W W':World} {S T:Nat→Prop},J B W S→Frm T W W'→(∀ k,k<W.heap.size→T k→b0≤k∧¬ S k)→J B W' S
 more:∀ {B C:Nat} {W:World} {S:Nat→Prop},J B W S→B≤C→J C W S
structure Kp (J:zbv) (B:Nat) (S:Nat→Prop) (W W':World) (S':Nat→Prop):Prop where
 j:J B W' S'
 frm:Frm S W W'
 new:∀ k,S' k→S k∨W.heap.size≤k
section
variable {b0:Nat} {J:zbv} {A B C:Nat} {S S1 S2:Nat→Prop} {W W1 W2:World}
theorem Kp.refl (h:J B W S):Kp J B S W W S:=⟨h,Frm.refl _ _,fun _ h=>.inl h⟩
theorem Kp.size (h:Kp J B S W W1 S1):W.heap.size≤W1.heap.size:=h.frm.size
theorem Kp.out (h:Kp J B S W W1 S1) {k:Nat}(hk:k<W.heap.size)(hS:¬ S k):¬ S1 k:=fun h1=>by
 rcases h.new k h1 with h2|h2
 ·exact hS h2
 ·omega
theorem Kp.trans {J2:zbv}(h:Kp J B S W W1 S1) (k:Kp J2 C S1 W1 W2 S2):Kp J2 C S W W2 S2:=by
 refine⟨k.j,⟨k.frm.os.trans h.frm.os,k.frm.tape.trans h.frm.tape,k.frm.output.trans h.frm.output,Nat.le_trans h.frm.size k.frm.size,fun i hi hn=>?_⟩,fun i hi=>?_⟩
 ·exact (k.frm.block i (Nat.lt_of_lt_of_le hi h.frm.size) (h.out hi hn)).trans (h.frm.block i hi hn)
 ·rcases k.new i hi with h1|h1
  ·exact h.new i h1
  ·exact .inr (Nat.le_trans h.frm.size h1)
theorem Kp.more (hJ:zbv.Ok b0 J)(h:Kp J B S W W1 S1)(hB:B≤C):Kp J C S W W1 S1:=⟨hJ.more h.j hB,h.frm,h.new⟩
theorem Kp.ext (hJ:zbv.Ok b0 J)(h:Kp J B S W W1 S1)(hx:Ext W1 W2):Kp J B S W W2 S1:=⟨hJ.keep h.j hx (fun _ _ h=>h.elim),h.frm.ext hx,h.new⟩
theorem Kp.own (hJ:zbv.Ok b0 J) {T:Nat→Prop}(h:Kp J B S W W1 S1)(hf:Frm T W1 W2)(hT:∀ k,k<W1.heap.size→T k→W.heap.size≤k∧b0≤k∧¬ S1 k):Kp J B S W W2 S1:=
 ⟨hJ.keep h.j hf (fun k hk ht=>(hT k hk ht).2),⟨hf.os.trans h.frm.os,hf.tape.trans h.frm.tape,hf.output.trans h.frm.output,Nat.le_trans h.frm.size hf.size,fun i hi hn =>
  (hf.block i (Nat.lt_of_lt_of_le hi h.frm.size) (fun ht=>by have:=(hT i (Nat.lt_of_lt_of_le hi h.frm.size) ht).1;omega)).trans (h.frm.block i hi hn)⟩,h.new⟩
theorem Kp.cell (hJ:zbv.Ok b0 J)(h:Kp J B S W W1 S1) {g:Nat}(hg:W.heap.size≤g)(hb:b0≤g)(hS:¬ S1 g) (j:Nat) (u:Value):Kp J B S W (W1.setCell ⟨g,j,none⟩ u) S1:=
 h.own hJ (Frm.setCell W1 g j u) (fun k _ e=>by subst e;exact⟨hg,hb,hS⟩)
theorem Kp.grown (hJ:zbv.Ok b0 J)(h:Kp J B S W W1 S1) {row:Option Nat}(hg:W1.grownBy W2 row)(hr:∀ k,row=some k→W.heap.size≤k∧b0≤k∧¬ S1 k):Kp J B S W W2 S1:=
 h.own hJ (T:=fun k=>row=some k) (Frm.of_grown hg) (fun k _ e=>hr k e)
theorem Kp.toExt (h:Kp J B S W W1 S1) {w:World}(hx:Ext w W)(hS:∀ k,S k→w.heap.size≤k):Ext w W1:=hx.frm h.frm (fun k hk hs=>by have:=hS k hs;omega)
theorem Kp.blk (h:Kp J B S W W1 S1) {g:Nat} {t:TypeId} {cs:Array Value}(hb:Blk W g t cs)(hS:¬ S g):Blk W1 g t cs∧¬ S1 g:=⟨hb.frm h.frm hS,h.out hb.lt hS⟩
theorem Kp.row (h:Kp J B S W W1 S1) {base n size:Nat} {e:TypeId} {v:Value} {xs:List Value}(ho:W.ownsRow base e size v n xs)(hS:∀ b,v.ownBlock=some b→¬ S b):W1.ownsRow base e size v n xs∧∀ b,v.ownBlock=some b→¬ S1 b:=
 ⟨zg ho h.frm hS,fun b hb=>h.out (ho.lt b hb).2 (hS b hb)⟩
theorem zbv.fresh (hJ:zbv.Ok b0 J)(h:J B W S) {k:Nat}(hk:W.heap.size≤k):¬ S k:=fun hs=>by have:=hJ.lt h k hs;omega
end
end Go.Proofs.YtcfchopfijalpaaGreatDoor
namespace Go.Proofs.YtcfchopfijalpaaGreatDoor
open Go Go.RowKit Go.Maps
structure KeyG {α:Type} (mt kt:TypeId) (val:α→Value) (lit:α→Lit) (dom:α→Prop):Prop where
 keyed:Keyed Tryz.prog kt
 und:Tryz.prog.underlying mt=some (.map kt 3)
 key:∀ {x:α},dom x→keyOf Tryz.prog kt (val x)=some (lit x)
 inj:∀ {x y:α},dom x→dom y→lit x=lit y→x=y
theorem zeroG (w:World):(zeroValue 3).run Tryz.prog w=.ok (.int .i64 0) w:=by kernel_rfl
theorem wfG {x:Nat}(h:x<1152921504606846976):(Lit.int .i64 (x:Int)).wf=true:=WalkArith.wf_i64 (by omega)
section
variable {α:Type} {mt kt:TypeId} {val:α→Value} {lit:α→Lit} {dom:α→Prop}
def zdw (kt:TypeId) (lit:α→Lit) (dom:α→Prop) (w:World) (b n:Nat) (M:α→Option Nat):Prop:=
 ∃ D:DataW Unit,w.ownsMap Tryz.prog kt (plainElem Tryz.prog 3) b n D∧∀ x,dom x→Maps.has D (lit x)=(M x).isSome∧∀ v,M x=some v→D.atKey (lit x) (.lit (.int .i64 0))=.lit (.int .i64 (v:Int))
open Classical in
noncomputable def updG (M:α→Option Nat) (x:α) (v:Nat):α→Option Nat:=fun y=>if y=x then some v else M y
theorem updG_same (M:α→Option Nat) (x:α) (v:Nat):updG M x v x=some v:=by unfold updG;rw [if_pos rfl]
theorem updG_ne (M:α→Option Nat) {x y:α} (v:Nat)(h:y≠x):updG M x v y=M y:=by unfold updG;rw [if_neg h]
theorem zdw.made (w:World):zdw kt lit dom (w.alloc (.map #[] 0)) w.heap.size 0 (fun _=>none):=
 ⟨.map [],World.ownsMap_made _ _ _ _,fun x hx=>⟨rfl,fun v hv=>by cases hv⟩⟩
section
variable {w w':World} {b n:Nat} {M:α→Option Nat}
theorem zdw.lt (h:zdw kt lit dom w b n M):b<w.heap.size:=by
 obtain⟨D,h,_⟩:=h
 exact h.lt
theorem zdw.frm {S:Nat→Prop}(h:zdw kt lit dom w b n M)(hf:Frm S w w')(hS:¬ S b):zdw kt lit dom w' b n M:=by
 obtain⟨D,⟨es,clock,hb,r⟩,hx⟩:=h
 exact⟨D,⟨es,clock,(hf.block b (Array.getElem?_eq_some_iff.1 hb).1 hS).trans hb,r⟩,hx⟩
theorem zdw.ext (h:zdw kt lit dom w b n M)(hx:Ext w w'):zdw kt lit dom w' b n M:=h.frm hx id
theorem zdw.far (h:zdw kt lit dom w b n M) {g:Nat} {t:TypeId} {cs:Array Value}(hg:Blk w g t cs):g≠b:=by
 rintro rfl
 obtain⟨D,⟨es,clock,hb,_⟩,_⟩:=h
 unfold Blk at hg
 rw [hg] at hb
 injection hb with hb
 cases hb
theorem zdw.farOwn (h:zdw kt lit dom w b n M) {base:Nat} {e:TypeId} {size k:Nat} {v:Value} {xs:List Value}(ho:w.ownsRow base e size v k xs):v.ownBlock≠some b:=by
 intro hv
 obtain⟨D,⟨es,clock,hb,_⟩,_⟩:=h
 rcases ho.2 with ⟨rfl,_⟩|⟨g,cap,cur,rfl,_,hh,_⟩
 ·simp [Value.ownBlock] at hv
 ·have hg:g=b:=by simpa [Value.ownBlock] using hv
  subst hg
  rw [hh] at hb
  injection hb with hb
  cases hb
end
variable (w:World) {ops:Array Oper} {rest:List Oper} {o:Oper} {a:Act} {Q:Exit→Act→World→Prop}
theorem zho (K:KeyG mt kt val lit dom)(hg:o.guard=none) (m x v:Operand)(hop:o.op=Op.mapUpdate mt m x v∨o.op=Op.insert mt m x v) {b n:Nat} {M:α→Option Nat}
  (hm:a.eval m=.map (some b)) (h:zdw kt lit dom w b n M) (hn:n<1152921504606846976) (key:α) (v9:Nat) (hx:a.eval x=val key) (hv:a.eval v=.int .i64 (v9:Int)) (hk:dom key) (hv9:v9<1152921504606846976)
  (hK:∀ w',zdw kt lit dom w' b (n+1) (updG M key v9)→w.grownBy w' (some b)→wpList Tryz.prog ops Q rest (a.put o.dst undef) w'):wpList Tryz.prog ops Q (o :: rest) a w:=by
 refine wpList_plain hg fun K' hK'=>?_
 obtain⟨D,ziJ,hD⟩:=h
 have hkey:=K.key hk
 obtain⟨w',hrun,r1,r2⟩:=ziJ.update K.keyed K.und (by unfold maxLen;omega) hkey (plainElem_int (H:=Unit) Tryz.underlying3 (wfG hv9))
 have hmap:zdw kt lit dom w' b (n+1) (updG M key v9):=⟨_,r1,fun y hy=>by
  unfold updG
  by_cases e:y=key
  ·subst e
   rw [if_pos rfl]
   exact⟨has_put_same ziJ.isMap (K.keyed.key hkey) _,fun u hu=>by rw [atKey_put_same ziJ.isMap (K.keyed.key hkey)];cases hu;rfl⟩
  ·have hne:lit y≠lit key:=fun h=>e (K.inj hy hk h)
   rw [if_neg e,has_put_other hne,atKey_put_other hne]
   exact hD y hy⟩
 unfold Oper.wp
 rcases hop with hop|hop
 all_goals
  simp [execOp,hop,hm,hx,hv,hrun,Result.andThen]
  exact hK' _ _ (hK w' hmap r2)
theorem zco (K:KeyG mt kt val lit dom)(hg:o.guard=none) (m x:Operand)(hop:o.op=Op.lookup mt m x true) {b n:Nat} {M:α→Option Nat}
  (hm:a.eval m=.map (some b)) (h:zdw kt lit dom w b n M) (key:α) (hx:a.eval x=val key) (hk:dom key)
  (hK:∀ c:Int,(∀ v,M key=some v→c=(v:Int))→wpList Tryz.prog ops Q rest (a.put o.dst (.tuple #[.int .i64 c,.bool (M key).isSome])) w):wpList Tryz.prog ops Q (o :: rest) a w:=by
 obtain⟨D,ziJ,hD⟩:=h
 refine wpList_lookup_own_ok_int w hg m x _ hop kt 3 .i64 K.keyed K.und Tryz.underlying3 (zeroG w) b n D hm ziJ _ _ hx (K.key hk) ?_
 intro c hat _
 rw [(hD key hk).1]
 exact hK c (fun v hv=>by
  have:=(hD key hk).2 v hv
  rw [this] at hat
  injection hat with hat
  injection hat with _ hat
  exact hat.symm)
end
end Go.Proofs.YtcfchopfijalpaaGreatDoor
namespace Go.Proofs.YtcfchopfijalpaaGreatDoor
open Go Go.RowKit
def zcj (w:List Nat):Nat:=w.foldl (fun v l=>v*7+(l+1)) 0
theorem zas (w:List Nat) (l:Nat):zcj (w++[l])=zcj w*7+(l+1):=by simp [zcj]
theorem zfl:zcj []=0:=rfl
theorem zQ {α:Type} (w:List α):w=[]∨∃ u l,w=u++[l]:=by
 rcases List.eq_nil_or_concat w with h|⟨u,l,h⟩
 ·exact Or.inl h
 ·exact Or.inr ⟨u,l,by simpa using h⟩
theorem wval_inj:∀ (n:Nat) (u v:List Nat),u.length≤n→(∀ l∈u,l<6)→(∀ l∈v,l<6)→zcj u=zcj v→u=v:=by
 intro n
 induction n with
 |zero =>
  intro u v hu _ _ h
  obtain rfl:u=[]:=List.eq_nil_of_length_eq_zero (by omega)
  rcases zQ v with rfl|⟨v,m,rfl⟩
  ·rfl
  ·rw [zas,zfl] at h;omega
 |succ n ih =>
  intro u v hu h1 h2 h
  rcases zQ u with rfl|⟨u,l,rfl⟩
  ·rcases zQ v with rfl|⟨v,m,rfl⟩
   ·rfl
   ·rw [zas,zfl] at h;omega
  ·rcases zQ v with rfl|⟨v,m,rfl⟩
   ·rw [zas,zfl] at h;omega
   ·have hl:=h1 l (by simp)
    have hm:=h2 m (by simp)
    rw [zas,zas] at h
    have e1:l=m:=by omega
    have e2:zcj u=zcj v:=by omega
    simp only [List.length_append,List.length_singleton] at hu
    rw [e1,ih u v (by omega) (fun x hx=>h1 x (by simp [hx])) (fun x hx=>h2 x (by simp [hx])) e2]
inductive zbc (d:Nat→Nat→List Nat) (start:List Nat):List Nat→Nat→Prop where
 |nil {x:Nat} (h:x∈start):zbc d start [] x
 |snoc {w:List Nat} {l n x:Nat} (h:zbc d start w n) (hx:x∈d n l):zbc d start (w++[l]) x
theorem zbc.inv {d:Nat→Nat→List Nat} {start w:List Nat} {l x:Nat}(h:zbc d start (w++[l]) x):∃ n,zbc d start w n∧x∈d n l:=by
 generalize hv:w++[l]=v at h
 cases h with
 |nil _=>simp at hv
 |@snoc w' l' n _ h hx =>
  have:=List.append_inj' hv rfl
  obtain⟨rfl,h2⟩:=this
  simp at h2
  subst h2
  exact⟨n,h,hx⟩
theorem zbc.inv_nil {d:Nat→Nat→List Nat} {start:List Nat} {x:Nat}(h:zbc d start [] x):x∈start:=by
 generalize hv:([]:List Nat)=v at h
 cases h with
 |nil h=>exact h
 |snoc _ _=>simp at hv
def visN (st:List Bool × List Nat) (n:Nat):List Bool × List Nat:=if st.1.getD n true then st else (st.1.set n true,st.2++[n])
def vis (S:List Bool) (ns:List Nat):List Bool × List Nat:=ns.foldl visN (S,[])
theorem vis_snoc (S:List Bool) (ns:List Nat) (n:Nat):vis S (ns++[n])=visN (vis S ns) n:=by simp [vis]
theorem zge (S:List Bool) (ns:List Nat)(hn:∀ n∈ns,n<S.length) :
  (vis S ns).1.length=S.length∧(∀ x,x<S.length→((vis S ns).1.getD x true=true↔S.getD x true=true∨x∈ns))∧(∀ x,x∈(vis S ns).2↔x∈ns∧S.getD x true=false):=by
 have key:∀ k,k≤ns.length→(vis S (ns.take k)).1.length=S.length∧(∀ x,x<S.length→((vis S (ns.take k)).1.getD x true=true↔S.getD x true=true∨x∈ns.take k))∧(∀ x,x∈(vis S (ns.take k)).2↔x∈ns.take k∧S.getD x true=false):=by
  intro k
  induction k with
  |zero=>intro _;exact⟨rfl,fun x _=>by simp [vis],fun x=>by simp [vis]⟩
  |succ k ih =>
   intro hk
   obtain⟨h1,h2,h3⟩:=ih (by omega)
   have hx:ns[k]?=some ns[k]:=List.getElem?_eq_getElem (by omega)
   have hnk:=hn ns[k] (List.getElem_mem _)
   rw [List.take_add_one,hx]
   simp only [Option.toList_some]
   generalize ns[k]=n at *
   rw [vis_snoc]
   generalize vis S (ns.take k)=st at *
   obtain⟨T,fr⟩:=st
   simp only at h1 h2 h3
   unfold visN
   simp only
   cases hT:T.getD n true
   ·have hTS:=h2 n hnk
    rw [hT] at hTS
    have hnS:S.getD n true=false:=by cases h:S.getD n true<;>simp_all
    have hnn:n∉ns.take k:=fun h=>by simp [h] at hTS
    refine⟨by simp [h1],fun x hx=>?_,fun x=>?_⟩
    ·simp only [Bool.false_eq_true,if_false,List.getD_eq_getElem?_getD,List.mem_append,List.mem_singleton]
     by_cases e:x=n
     ·subst e
      rw [List.getElem?_set_self (by omega)]
      simp
     ·rw [List.getElem?_set_ne (by omega)]
      have:=h2 x hx
      rw [List.getD_eq_getElem?_getD,List.getD_eq_getElem?_getD] at this
      simp only [e,or_false]
      exact this
    ·simp only [Bool.false_eq_true,if_false,List.mem_append,List.mem_singleton]
     constructor
     ·rintro (h|rfl)
      ·exact⟨Or.inl ((h3 x).1 h).1,((h3 x).1 h).2⟩
      ·exact⟨Or.inr rfl,hnS⟩
     ·rintro ⟨h|rfl,h'⟩
      ·exact Or.inl ((h3 x).2 ⟨h,h'⟩)
      ·exact Or.inr rfl
   ·refine⟨h1,fun x hx=>?_,fun x=>?_⟩
    ·simp only [if_true,List.mem_append,List.mem_singleton]
     rw [h2 x hx]
     have hTS:=(h2 n hnk).1 hT
     constructor
     ·rintro (h|h)
      ·exact Or.inl h
      ·exact Or.inr (Or.inl h)
     ·rintro (h|h|rfl)
      ·exact Or.inl h
      ·exact Or.inr h
      ·exact hTS
    ·simp only [if_true,List.mem_append,List.mem_singleton]
     rw [h3 x]
     have hTS:=(h2 n hnk).1 hT
     constructor
     ·rintro ⟨h,h'⟩;exact⟨Or.inl h,h'⟩
     ·rintro ⟨h|rfl,h'⟩
      ·exact⟨h,h'⟩
      ·rcases hTS with h|h
       ·rw [h] at h';cases h'
       ·exact⟨h,h'⟩
 have:=key ns.length (Nat.le_refl _)
 rwa [List.take_length] at this
structure Stp where
 parent:Int
 letter:Nat
 nodes:List Nat
structure Bfs (d:Nat→Nat→List Nat) (start:List Nat) (goal:Nat→Bool) (L:List Nat) (N:Nat) (S:List Bool) (st:List Stp) (ws:List (List Nat)) (i j:Nat):Prop where
 len:S.length=N
 wl:ws.length=st.length
 small:∀ (k:Nat) (p:Stp),st[k]?=some p→∀ x∈p.nodes,x<N
 some_:∀ (k:Nat) (p:Stp),st[k]?=some p→p.nodes≠[]
 word:∀ (k:Nat) (p:Stp),st[k]?=some p→(k=0∧p.parent = -1∧ws.getD k []=[])∨(∃ a b:Nat,p.parent=(a:Int)∧a<k∧(a<i∨a=i∧b<j)∧L[b]?=some p.letter∧ws.getD k []=ws.getD a []++[p.letter])
 goes:∀ (k:Nat) (p:Stp),st[k]?=some p→∀ x∈p.nodes,zbc d start (ws.getD k []) x
 incr:∀ a b:Nat,a<b→b<st.length→zcj (ws.getD a [])<zcj (ws.getD b [])
 seen:∀ x,x<N→(S.getD x true=true↔∃ (k:Nat) (p:Stp),st[k]?=some p∧x∈p.nodes)
 first:∀ x∈start,∃ (p:Stp),st[0]?=some p∧x∈p.nodes
 zero:∀ p,st[0]?=some p→ws.getD 0 []=[]
 proc:∀ (k:Nat) (p:Stp) (b l:Nat),st[k]?=some p→L[b]?=some l→(k<i∨k=i∧b<j)→∀ n∈p.nodes,∀ x∈d n l,∃ (k':Nat) (q:Stp),st[k']?=some q∧x∈q.nodes∧zcj (ws.getD k' [])≤zcj (ws.getD k []++[l])
 dull:∀ (k:Nat) (p:Stp),st[k]?=some p→∀ x∈p.nodes,goal x=false
section
variable {d:Nat→Nat→List Nat} {start:List Nat} {goal:Nat→Bool} {L:List Nat} {N:Nat} {S:List Bool} {st:List Stp} {ws:List (List Nat)} {i j:Nat}
def Rise (L:List Nat):Prop:=(∀ l∈L,l<6)∧∀ (a b x y:Nat),L[a]?=some x→L[b]?=some y→a<b→x<y
theorem Bfs.before (h:Bfs d start goal L N S st ws i j) {V:Nat}(hV:∀ (k:Nat) (p:Stp) (b l:Nat),st[k]?=some p→L[b]?=some l→zcj (ws.getD k []++[l])<V→(k<i∨k=i∧b<j)) :
  ∀ (m:Nat) (v:List Nat),v.length≤m→(∀ l∈v,l∈L)→zcj v<V→∀ x,zbc d start v x→∃ (k:Nat) (p:Stp),st[k]?=some p∧x∈p.nodes∧zcj (ws.getD k [])≤zcj v:=by
 intro m
 induction m with
 |zero =>
  intro v hv _ _ x hx
  obtain rfl:v=[]:=List.eq_nil_of_length_eq_zero (by omega)
  obtain⟨p,hp,hxp⟩:=h.first x hx.inv_nil
  exact⟨0,p,hp,hxp,by rw [h.zero p hp];exact Nat.le_refl _⟩
 |succ m ih =>
  intro v hv hl hlt x hx
  rcases zQ v with rfl|⟨u,l,rfl⟩
  ·obtain⟨p,hp,hxp⟩:=h.first x hx.inv_nil
   exact⟨0,p,hp,hxp,by rw [h.zero p hp];exact Nat.le_refl _⟩
  ·obtain⟨n,hn,hxn⟩:=hx.inv
   simp only [List.length_append,List.length_singleton] at hv
   have hlL:=hl l (by simp)
   obtain⟨b,hb⟩:=List.getElem?_of_mem hlL
   rw [zas] at hlt
   obtain⟨k,p,hp,hnp,hk⟩:=ih u (by omega) (fun x hx=>hl x (by simp [hx])) (by omega) n hn
   have hlt2:zcj (ws.getD k []++[l])<V:=by rw [zas];omega
   obtain⟨k',q,hq,hxq,hk'⟩:=h.proc k p b l hp hb (hV k p b l hp hb hlt2) n hnp x hxn
   exact⟨k',q,hq,hxq,by rw [zas] at hk' ⊢;omega⟩
theorem Bfs.none (h:Bfs d start goal L N S st ws i j)(hend:st.length≤i) {v:List Nat}(hv:∀ l∈v,l∈L) {x:Nat}(hx:zbc d start v x):goal x=false:=by
 by_cases hst:st=[]
 ·subst hst
  exfalso
  have:∀ (m:Nat) (v:List Nat),v.length≤m→∀ x,¬ zbc d start v x:=by
   intro m
   induction m with
   |zero =>
    intro v hv x hx
    obtain rfl:v=[]:=List.eq_nil_of_length_eq_zero (by omega)
    obtain⟨p,hp,_⟩:=h.first x hx.inv_nil
    simp at hp
   |succ m ih =>
    intro v hv x hx
    rcases zQ v with rfl|⟨u,l,rfl⟩
    ·obtain⟨p,hp,_⟩:=h.first x hx.inv_nil
     simp at hp
    ·obtain⟨n,hn,_⟩:=hx.inv
     exact ih u (by simp at hv;omega) n hn
  exact this v.length v (Nat.le_refl _) x hx
 ·obtain⟨k,p,hp,hxp,_⟩:=h.before (V:=zcj v+1) (fun k p b l hp hb _=>Or.inl (by have:=(List.getElem?_eq_some_iff.1 hp).1;omega)) v.length v (Nat.le_refl _) hv (by omega) x hx
  exact h.dull k p hp x hxp
theorem Bfs.ahead (h:Bfs d start goal L N S st ws i j)(hL:Rise L) {l:Nat}(hi:i<st.length)(hl:L[j]?=some l) {k:Nat}(hk:k<st.length):zcj (ws.getD k [])<zcj (ws.getD i []++[l]):=by
 rw [zas]
 rcases h.word k _ (List.getElem?_eq_getElem hk) with ⟨_,_,e⟩|⟨a,b,_,hak,hab,hb,e⟩
 ·rw [e,zfl];omega
 ·rw [e,zas]
  have hbl:=hL.1 _ (List.mem_of_getElem? hb)
  rcases hab with h1|⟨rfl,h2⟩
  ·have:=h.incr a i h1 hi
   omega
  ·have:=hL.2 b j _ _ hb hl h2
   omega
theorem Bfs.taken (h:Bfs d start goal L N S st ws i j)(hL:Rise L) {l:Nat}(hi:i<st.length)(hl:L[j]?=some l) (k:Nat) (p:Stp) (b m:Nat)(hp:st[k]?=some p)(hb:L[b]?=some m)(hlt:zcj (ws.getD k []++[m])<zcj (ws.getD i []++[l])):k<i∨k=i∧b<j:=by
 rw [zas,zas] at hlt
 have hk:=(List.getElem?_eq_some_iff.1 hp).1
 have h1:=hL.1 _ (List.mem_of_getElem? hb)
 have h2:=hL.1 _ (List.mem_of_getElem? hl)
 rcases Nat.lt_trichotomy k i with h3|h3|h3
 ·exact Or.inl h3
 ·subst h3
  refine Or.inr ⟨rfl,?_⟩
  rcases Nat.lt_trichotomy b j with h4|h4|h4
  ·exact h4
  ·subst h4
   rw [hb] at hl
   have:=Option.some.inj hl
   omega
  ·have:=hL.2 j b _ _ hl hb h4
   omega
 ·have:=h.incr i k h3 hk
  omega
theorem Bfs.found (h:Bfs d start goal L N S st ws i j)(hL:Rise L) {l:Nat}(hi:i<st.length)(hl:L[j]?=some l) {v:List Nat}(hv:∀ x∈v,x∈L)(hlt:zcj v<zcj (ws.getD i []++[l])) {x:Nat}(hx:zbc d start v x):goal x=false:=by
 obtain⟨k,p,hp,hxp,_⟩:=h.before (fun k p b m hp hb hlt=>h.taken hL hi hl k p b m hp hb hlt) v.length v (Nat.le_refl _) hv hlt x hx
 exact h.dull k p hp x hxp
theorem Bfs.row (h:Bfs d start goal L N S st ws i j)(hj:L.length≤j):Bfs d start goal L N S st ws (i+1) 0:=
 { h with
  word:=fun k p hp=>by
   rcases h.word k p hp with h1|⟨a,b,h1,h2,h3,h4⟩
   ·exact Or.inl h1
   ·exact Or.inr ⟨a,b,h1,h2,by omega,h4⟩
  proc:=fun k p b l hp hb hk=>by
   have hbl:=(List.getElem?_eq_some_iff.1 hb).1
   exact h.proc k p b l hp hb (by omega) }
def addS (st:List Stp) (a:Int) (l:Nat) (fr:List Nat):List Stp:=if fr=[] then st else st++[⟨a,l,fr⟩]
def addW (ws:List (List Nat)) (w:List Nat) (fr:List Nat):List (List Nat):=if fr=[] then ws else ws++[w]
theorem zeQ {ws:List (List Nat)} {k:Nat} (w:List Nat)(hk:k<ws.length):(ws++[w]).getD k []=ws.getD k []:=by
 rw [List.getD_eq_getElem?_getD,List.getD_eq_getElem?_getD,List.getElem?_append_left hk]
theorem zgn {ws:List (List Nat)} (w:List Nat):(ws++[w]).getD ws.length []=w:=by
 rw [List.getD_eq_getElem?_getD,List.getElem?_append_right (Nat.le_refl _),Nat.sub_self]
 rfl
theorem Bfs.step (h:Bfs d start goal L N S st ws i j)(hL:Rise L) {l:Nat} {pi:Stp}(hi:st[i]?=some pi)(hl:L[j]?=some l) {rs:List Nat}(hrs:∀ x,x∈rs↔∃ n∈pi.nodes,x∈d n l)(hN:∀ x∈rs,x<N)(hg:∀ x∈(vis S rs).2,goal x=false) :
  Bfs d start goal L N (vis S rs).1 (addS st i l (vis S rs).2) (addW ws (ws.getD i []++[l]) (vis S rs).2) i (j+1):=by
 have hil:=(List.getElem?_eq_some_iff.1 hi).1
 obtain⟨v1,v2,v3⟩:=zge S rs (fun n hn=>by rw [h.len];exact hN n hn)
 generalize (vis S rs).1=T at *
 generalize (vis S rs).2=fr at *
 have hahead:=fun k hk=>h.ahead hL hil hl (k:=k) hk
 by_cases hfr:fr=[]
 ·subst hfr
  rw [addS,if_pos rfl,addW,if_pos rfl]
  have hsub:∀ x∈rs,S.getD x true=true:=fun x hx=>by
   cases hS:S.getD x true
   ·have:=(v3 x).2 ⟨hx,hS⟩
    cases this
   ·rfl
  refine { h with len:=v1.trans h.len,word:=?_,seen:=?_,proc:=?_ }
  ·intro k p hp
   rcases h.word k p hp with h1|⟨a,b,h1,h2,h3,h4⟩
   ·exact Or.inl h1
   ·exact Or.inr ⟨a,b,h1,h2,by omega,h4⟩
  ·intro x hx
   rw [v2 x (by rw [h.len];exact hx)]
   constructor
   ·rintro (h1|h1)
    ·exact (h.seen x hx).1 h1
    ·exact (h.seen x hx).1 (hsub x h1)
   ·intro h1
    exact Or.inl ((h.seen x hx).2 h1)
  ·intro k p b m hp hb hk n hn x hx
   by_cases hkj:k=i∧b=j
   ·obtain⟨rfl,rfl⟩:=hkj
    rw [hi] at hp
    obtain rfl:=Option.some.inj hp
    rw [hl] at hb
    obtain rfl:=Option.some.inj hb
    have hxr:=(hrs x).2 ⟨n,hn,hx⟩
    obtain⟨k',q,hq,hxq⟩:=(h.seen x (hN x hxr)).1 (hsub x hxr)
    exact⟨k',q,hq,hxq,Nat.le_of_lt (hahead k' (List.getElem?_eq_some_iff.1 hq).1)⟩
   ·exact h.proc k p b m hp hb (by omega) n hn x hx
 ·rw [addS,if_neg hfr,addW,if_neg hfr]
  have hold:∀ {k:Nat} {p:Stp},(st++[(⟨i,l,fr⟩:Stp)])[k]?=some p→(k<st.length∧st[k]?=some p)∨(k=st.length∧p=⟨i,l,fr⟩):=by
   intro k p hp
   rcases Nat.lt_trichotomy k st.length with hk|hk|hk
   ·rw [List.getElem?_append_left hk] at hp
    exact Or.inl ⟨hk,hp⟩
   ·rw [List.getElem?_append_right (by omega),hk,Nat.sub_self] at hp
    exact Or.inr ⟨hk,(Option.some.inj hp).symm⟩
   ·rw [List.getElem?_eq_none (by simp;omega)] at hp
    cases hp
  have hkeep:∀ {k:Nat} {p:Stp},st[k]?=some p→(st++[(⟨i,l,fr⟩:Stp)])[k]?=some p:=fun {k p} hp=>by
   rw [List.getElem?_append_left (List.getElem?_eq_some_iff.1 hp).1];exact hp
  have hnew:(st++[(⟨i,l,fr⟩:Stp)])[st.length]?=some ⟨i,l,fr⟩:=by rw [List.getElem?_append_right (Nat.le_refl _),Nat.sub_self];rfl
  have hwl:=h.wl
  have hgl:∀ k,k<st.length→(ws++[ws.getD i []++[l]]).getD k []=ws.getD k []:=fun k hk=>zeQ _ (by omega)
  have hgn:(ws++[ws.getD i []++[l]]).getD st.length []=ws.getD i []++[l]:=by rw [← hwl];exact zgn _
  have hfrs:∀ x∈fr,x∈rs∧S.getD x true=false:=fun x hx=>(v3 x).1 hx
  refine⟨v1.trans h.len,by simp [hwl],?_,?_,?_,?_,?_,?_,?_,?_,?_,?_⟩
  ·intro k p hp x hx
   rcases hold hp with ⟨_,h1⟩|⟨_,rfl⟩
   ·exact h.small k p h1 x hx
   ·exact hN x (hfrs x hx).1
  ·intro k p hp
   rcases hold hp with ⟨_,h1⟩|⟨_,rfl⟩
   ·exact h.some_ k p h1
   ·exact hfr
  ·intro k p hp
   rcases hold hp with ⟨h0,h1⟩|⟨rfl,rfl⟩
   ·rcases h.word k p h1 with ⟨e0,e1,e2⟩|⟨a,b,e1,e2,e3,e4,e5⟩
    ·exact Or.inl ⟨e0,e1,by rw [hgl k h0];exact e2⟩
    ·exact Or.inr ⟨a,b,e1,e2,by omega,e4,by rw [hgl k h0,hgl a (by omega)];exact e5⟩
   ·exact Or.inr ⟨i,j,rfl,hil,Or.inr ⟨rfl,by omega⟩,hl,by rw [hgn,hgl i hil]⟩
  ·intro k p hp x hx
   rcases hold hp with ⟨h0,h1⟩|⟨rfl,rfl⟩
   ·rw [hgl k h0];exact h.goes k p h1 x hx
   ·rw [hgn]
    obtain⟨n,hn,hxn⟩:=(hrs x).1 (hfrs x hx).1
    exact .snoc (h.goes i pi hi n hn) hxn
  ·intro a b hab hb
   simp only [List.length_append,List.length_singleton] at hb
   by_cases hbl:b<st.length
   ·rw [hgl a (by omega),hgl b hbl];exact h.incr a b hab hbl
   ·obtain rfl:b=st.length:=by omega
    rw [hgl a hab,hgn];exact hahead a hab
  ·intro x hx
   rw [v2 x (by rw [h.len];exact hx)]
   constructor
   ·rintro (h1|h1)
    ·obtain⟨k,p,hp,hxp⟩:=(h.seen x hx).1 h1
     exact⟨k,p,hkeep hp,hxp⟩
    ·cases hS:S.getD x true
     ·exact⟨_,_,hnew,(v3 x).2 ⟨h1,hS⟩⟩
     ·obtain⟨k,p,hp,hxp⟩:=(h.seen x hx).1 hS
      exact⟨k,p,hkeep hp,hxp⟩
   ·rintro ⟨k,p,hp,hxp⟩
    rcases hold hp with ⟨_,h1⟩|⟨_,rfl⟩
    ·exact Or.inl ((h.seen x hx).2 ⟨k,p,h1,hxp⟩)
    ·exact Or.inr (hfrs x hxp).1
  ·intro x hx
   obtain⟨p,hp,hxp⟩:=h.first x hx
   exact⟨p,hkeep hp,hxp⟩
  ·intro p hp
   rcases hold hp with ⟨h0,h1⟩|⟨h0,_⟩
   ·rw [hgl 0 h0];exact h.zero p h1
   ·omega
  ·intro k p b m hp hb hk n hn x hx
   rcases hold hp with ⟨h0,h1⟩|⟨rfl,rfl⟩
   ·rw [hgl k h0]
    by_cases hkj:k=i∧b=j
    ·obtain⟨rfl,rfl⟩:=hkj
     rw [hi] at h1
     obtain rfl:=Option.some.inj h1
     rw [hl] at hb
     obtain rfl:=Option.some.inj hb
     have hxr:=(hrs x).2 ⟨n,hn,hx⟩
     cases hS:S.getD x true
     ·exact⟨_,_,hnew,(v3 x).2 ⟨hxr,hS⟩,by rw [hgn];exact Nat.le_refl _⟩
     ·obtain⟨k',q,hq,hxq⟩:=(h.seen x (hN x hxr)).1 hS
      have hk':=(List.getElem?_eq_some_iff.1 hq).1
      exact⟨k',q,hkeep hq,hxq,by rw [hgl k' hk'];exact Nat.le_of_lt (hahead k' hk')⟩
    ·obtain⟨k',q,hq,hxq,hle⟩:=h.proc k p b m h1 hb (by omega) n hn x hx
     have hk':=(List.getElem?_eq_some_iff.1 hq).1
     exact⟨k',q,hkeep hq,hxq,by rw [hgl k' hk'];exact hle⟩
   ·omega
  ·intro k p hp x hx
   rcases hold hp with ⟨_,h1⟩|⟨_,rfl⟩
   ·exact h.dull k p h1 x hx
   ·exact hg x hx
theorem Bfs.begin_ {d:Nat→Nat→List Nat} {start:List Nat} {goal:Nat→Bool} {L:List Nat} {N:Nat}(hN:∀ x∈start,x<N)(hg:∀ x∈(vis (List.replicate N false) start).2,goal x=false) :
  Bfs d start goal L N (vis (List.replicate N false) start).1 (addS [] (-1) 0 (vis (List.replicate N false) start).2) (addW [] [] (vis (List.replicate N false) start).2) 0 0:=by
 obtain⟨v1,v2,v3⟩:=zge (List.replicate N false) start (fun n hn=>by simpa using hN n hn)
 have hf:∀ x,x<N→(List.replicate N false).getD x true=false:=fun x hx=>by simp [List.getD_eq_getElem?_getD,hx]
 generalize (vis (List.replicate N false) start).1=T at *
 generalize (vis (List.replicate N false) start).2=fr at *
 have hfr:∀ x,x∈fr↔x∈start:=fun x=>(v3 x).trans ⟨fun h=>h.1,fun h=>⟨h,hf x (hN x h)⟩⟩
 have hT:∀ x,x<N→(T.getD x true=true↔x∈start):=fun x hx=>by
  rw [v2 x (by simpa using hx),hf x hx]
  simp
 by_cases he:fr=[]
 ·subst he
  rw [addS,if_pos rfl,addW,if_pos rfl]
  have hs:∀ x,x∉start:=fun x hx=>by have:=(hfr x).2 hx;cases this
  refine⟨by simpa using v1,rfl,fun k p hp=>by simp at hp,fun k p hp=>by simp at hp,fun k p hp=>by simp at hp,fun k p hp=>by simp at hp,fun a b _ hb=>by simp at hb,fun x hx=>?_,fun x hx=>absurd hx (hs x),fun p hp=>by simp at hp,fun k p b l hp=>by simp at hp,fun k p hp=>by simp at hp⟩
  rw [hT x hx]
  exact⟨fun h=>absurd h (hs x),fun ⟨k,p,hp,_⟩=>by simp at hp⟩
 ·rw [addS,if_neg he,addW,if_neg he]
  have hold:∀ {k:Nat} {p:Stp},([]++[(⟨-1,0,fr⟩:Stp)])[k]?=some p→k=0∧p=⟨-1,0,fr⟩:=by
   intro k p hp
   cases k with
   |zero=>exact⟨rfl,by simpa using hp.symm⟩
   |succ k=>simp at hp
  refine⟨by simpa using v1,rfl,?_,?_,?_,?_,?_,?_,?_,?_,?_,?_⟩
  ·intro k p hp x hx
   obtain⟨rfl,rfl⟩:=hold hp
   exact hN x ((hfr x).1 hx)
  ·intro k p hp
   obtain⟨rfl,rfl⟩:=hold hp
   exact he
  ·intro k p hp
   obtain⟨rfl,rfl⟩:=hold hp
   exact Or.inl ⟨rfl,rfl,rfl⟩
  ·intro k p hp x hx
   obtain⟨rfl,rfl⟩:=hold hp
   exact .nil ((hfr x).1 hx)
  ·intro a b hab hb
   simp at hb;omega
  ·intro x hx
   rw [hT x hx]
   constructor
   ·intro h
    exact⟨0,_,rfl,(hfr x).2 h⟩
   ·rintro ⟨k,p,hp,hxp⟩
    obtain⟨rfl,rfl⟩:=hold hp
    exact (hfr x).1 hxp
  ·intro x hx
   exact⟨_,rfl,(hfr x).2 hx⟩
  ·intro p _
   rfl
  ·intro k p b l hp _ hk
   omega
  ·intro k p hp x hx
   obtain⟨rfl,rfl⟩:=hold hp
   exact hg x hx
end
end Go.Proofs.YtcfchopfijalpaaGreatDoor
namespace Go.Proofs.YtcfchopfijalpaaGreatDoor
theorem visN_cnt (st:List Bool × List Nat) (n:Nat):(visN st n).1.count true+st.2.length=st.1.count true+(visN st n).2.length:=by
 unfold visN
 cases h:st.1.getD n true
 ·have hn:n<st.1.length:=by
   rcases Nat.lt_or_ge n st.1.length with h1|h1
   ·exact h1
   ·rw [List.getD_eq_getElem?_getD,List.getElem?_eq_none h1] at h;cases h
  have hv:st.1[n]=false:=by rw [List.getD_eq_getElem?_getD,List.getElem?_eq_getElem hn] at h;exact h
  simp only [Bool.false_eq_true,if_false]
  rw [List.count_set hn,hv]
  simp
  omega
 ·simp
theorem foldl_cnt (ns:List Nat) (st:List Bool × List Nat):(ns.foldl visN st).1.count true+st.2.length=st.1.count true+(ns.foldl visN st).2.length:=by
 induction ns generalizing st with
 |nil=>rfl
 |cons n r ih =>
  have h1:=ih (visN st n)
  have h2:=visN_cnt st n
  rw [List.foldl_cons]
  omega
theorem vis_cnt (S:List Bool) (ns:List Nat):(vis S ns).1.count true=S.count true+(vis S ns).2.length:=by
 have:=foldl_cnt ns (S,[])
 simpa [vis] using this
def Cnt (S:List Bool) (st:List Stp):Prop:=(st.map fun p=>p.nodes.length).sum=S.count true
theorem Cnt.add {S:List Bool} {st:List Stp}(h:Cnt S st) (a:Int) (l:Nat) (ns:List Nat):Cnt (vis S ns).1 (addS st a l (vis S ns).2):=by
 unfold Cnt at h ⊢
 rw [vis_cnt,addS]
 by_cases he:(vis S ns).2=[]
 ·rw [if_pos he,he,h];rfl
 ·rw [if_neg he]
  simp [h]
theorem Cnt.nil (N:Nat):Cnt (List.replicate N false) []:=by
 unfold Cnt
 simp [List.count_replicate]
theorem sum_len {l:List Nat}(h:∀ x∈l,1≤x):l.length≤l.sum:=by
 induction l with
 |nil=>simp
 |cons x r ih =>
  have h1:=ih (fun y hy=>h y (by simp [hy]))
  have h2:=h x (by simp)
  simp
  omega
theorem sum_mem {l:List Nat} {x:Nat}(h:x∈l):x≤l.sum:=by
 induction l with
 |nil=>cases h
 |cons y r ih =>
  rcases List.mem_cons.1 h with rfl|h
  ·simp
  ·have:=ih h
   simp
   omega
theorem Cnt.steps {S:List Bool} {st:List Stp}(h:Cnt S st)(hs:∀ (k:Nat) (p:Stp),st[k]?=some p→p.nodes≠[]):st.length≤S.length:=by
 unfold Cnt at h
 have h1:(st.map fun p=>p.nodes.length).length≤(st.map fun p=>p.nodes.length).sum:=sum_len (fun x hx=>by
  obtain⟨p,hp,rfl⟩:=List.mem_map.1 hx
  obtain⟨k,hk⟩:=List.getElem?_of_mem hp
  have:=hs k p hk
  have:=List.length_pos_iff.2 this
  omega)
 rw [List.length_map,h] at h1
 exact Nat.le_trans h1 List.count_le_length
theorem Cnt.nodes {S:List Bool} {st:List Stp}(h:Cnt S st) {k:Nat} {p:Stp}(hp:st[k]?=some p):p.nodes.length≤S.length:=by
 unfold Cnt at h
 have h1:=sum_mem (List.mem_map.2 ⟨p,List.mem_of_getElem? hp,rfl⟩:p.nodes.length∈st.map fun p=>p.nodes.length)
 rw [h] at h1
 exact Nat.le_trans h1 List.count_le_length
def reach (d:Nat→Nat→List Nat) (l:Nat) (ns:List Nat):List Nat:=(ns.map fun n=>d n l).flatten
theorem zgz {d:Nat→Nat→List Nat} {l:Nat} {ns:List Nat} {x:Nat}:x∈reach d l ns↔∃ n∈ns,x∈d n l:=by
 unfold reach
 rw [List.mem_flatten]
 exact⟨fun ⟨ys,h1,h2⟩=>by obtain⟨n,hn,rfl⟩:=List.mem_map.1 h1;exact⟨n,hn,h2⟩,fun ⟨n,hn,h2⟩=>⟨_,List.mem_map.2 ⟨n,hn,rfl⟩,h2⟩⟩
theorem reach_snoc (d:Nat→Nat→List Nat) (l:Nat) (ns:List Nat) (n:Nat):reach d l (ns++[n])=reach d l ns++d n l:=by simp [reach]
theorem reach_take {d:Nat→Nat→List Nat} {l k n:Nat} {ns:List Nat}(h:ns[k]?=some n):reach d l (ns.take (k+1))=reach d l (ns.take k)++d n l:=by
 rw [List.take_add_one,h]
 exact reach_snoc _ _ _ _
theorem reach_len {d:Nat→Nat→List Nat} {l D:Nat} {ns:List Nat}(h:∀ n∈ns,(d n l).length≤D):(reach d l ns).length≤ns.length*D:=by
 induction ns with
 |nil=>simp [reach]
 |cons n r ih =>
  have h1:=ih (fun x hx=>h x (by simp [hx]))
  have h2:=h n (by simp)
  simp only [reach,List.map_cons,List.flatten_cons,List.length_append,List.length_cons,Nat.add_mul,Nat.one_mul] at h1 ⊢
  omega
def Found (d:Nat→Nat→List Nat) (start:List Nat) (goal:Nat→Bool) (L:List Nat) (v:List Nat):Prop:=
 (∀ l∈v,l∈L)∧(∃ x,zbc d start v x∧goal x=true)∧∀ u,(∀ l∈u,l∈L)→zcj u<zcj v→∀ x,zbc d start u x→goal x=false
def Lost (d:Nat→Nat→List Nat) (start:List Nat) (goal:Nat→Bool) (L:List Nat):Prop:=∀ v,(∀ l∈v,l∈L)→∀ x,zbc d start v x→goal x=false
end Go.Proofs.YtcfchopfijalpaaGreatDoor
