/- Plain lemmas on memory: a slice that reads as a list, blocks that are known whole, frames. They hold of every program and every world, without conditions. | Plain lemmas on sets of small numbers as bits. They hold without conditions. | Contracts of the leaves: letters, alphabets, words. | Contracts of the laws' own size counts. | Automata as data; how they lie in memory. | Contracts of the laws' own copies. | A region that draws its order, walked in one order: whatever reads is taken first, what makes memory comes up alone. It holds of every program, without conditions. | Systems as data; how -/
import Derived.WalkKit
import Derived.WalkSpells
import Derived.WalkLawsBesides
import Derived.BigQuiet
import Derived.Deep.QuietTactic
import Derived.Deep.RegionWith
import Derived.Deep.RegionHeld3
import Derived.Deep.AppendLies
import Derived.Deep.Draws
import Derived.Laws.OwnMore
import Derived.Laws.BitsAllLaws
import Derived.Laws.BitsLemmas
import Derived.Maps.AppendAt
import Derived.Test.YtndhahednhnnbaaGreatDoorRows
import Derived.OrdersHeld
import Derived.ProofKit
import Derived.Deep.Slices
import Derived.Deep.Fields
import Derived.ChangeSame
import Derived.ChangeArms
import Derived.Lib.SmallJoins
import Derived.OpenShut
import Derived.ShutString
import Derived.ChangeOld
import Derived.Lib.TrailingZeros
import Derived.Shelf.Spec.TrailingZeros
import Derived.Lib.LaidTab
import Derived.LaidMore
import Derived.Stop.Joined
import Derived.Stop.LaidErr
import Derived.StillTailTactics
namespace Go.Proofs.YtndhahednhnnbaaGreatDoor
open Go Go.RowKit
theorem hide {p:Prop}(h:p):Hid p:=h
structure Bx (p:Prop):Prop where
 out:p
theorem pT {A B:Prop}(h:B) (k:Bx B→A:=by
 intro h0
 try simp only [Act.put,List.setIfInBounds_toArray,List.set_cons_zero,List.set_cons_succ]
 exact h0.out):A:=k ⟨h⟩
theorem zdk (a:Addr) (n:Nat):(a.add n).block=a.block:=by unfold Addr.add;split<;>rfl
theorem addr_add (a:Addr) (i j:Nat):(a.add i).add j=a.add (i+j):=by
 unfold Addr.add
 by_cases hi:i=0<;>by_cases hj:j=0<;>simp [hi,hj,Nat.add_assoc]
theorem addr_zero (a:Addr):a.add 0=a:=by simp [Addr.add]
theorem zO (g o n:Nat):(⟨g,o,none⟩:Addr).add n=⟨g,o+n,none⟩:=by unfold Addr.add;split<;>simp_all
structure Frm (S:Nat→Prop) (w w':World):Prop where
 os:w'.os=w.os
 tape:w'.tape=w.tape
 output:w'.output=w.output
 size:w.heap.size≤w'.heap.size
 block:∀ k,k<w.heap.size→¬ S k→w'.heap[k]?=w.heap[k]?
def Ext (w w':World):Prop:=Frm (fun _=>False) w w'
theorem Ext.refl (w:World):Ext w w:=⟨rfl,rfl,rfl,Nat.le_refl _,fun _ _ _=>rfl⟩
theorem Ext.trans {a b c:World}(h:Ext a b) (k:Ext b c):Ext a c:=
 ⟨k.os.trans h.os,k.tape.trans h.tape,k.output.trans h.output,Nat.le_trans h.size k.size,fun i hi hn=>(k.block i (Nat.lt_of_lt_of_le hi h.size) hn).trans (h.block i hi hn)⟩
theorem Ext.drew {a w:World}(h:Ext a w):Ext a w.drew:=⟨h.os,h.tape,h.output,h.size,h.block⟩
theorem Ext.drewN {a w:World}(h:Ext a w) (n:Nat):Ext a (w.drewN n):=⟨h.os,h.tape,h.output,h.size,h.block⟩
theorem Ext.alloc {a w:World}(h:Ext a w) (o:Obj):Ext a (w.alloc o):=
 h.trans ⟨rfl,rfl,rfl,by simp,fun k hk _=>Below.heap_alloc _ _ _ hk⟩
theorem Ext.setCell {a w:World}(h:Ext a w) {p:Addr}(hp:a.heap.size≤p.block) (u:Value):Ext a (w.setCell p u):=
 ⟨h.os,h.tape,h.output,by simpa [World.setCell] using h.size,fun k hk hn=>(Below.heap_setCell _ _ _ _ (by omega)).trans (h.block k hk hn)⟩
theorem Ext.grown {a w w':World} {row:Option Nat}(h:Ext a w)(hg:w.grownBy w' row)(hr:∀ k,row=some k→a.heap.size≤k):Ext a w':=
 ⟨hg.os.trans h.os,hg.tape.trans h.tape,hg.output.trans h.output,Nat.le_trans h.size hg.size,
  fun k hk hn=>(hg.block k (Nat.lt_of_lt_of_le hk h.size) (fun e=>by have:=hr k e.symm;omega)).trans (h.block k hk hn)⟩
theorem Ext.heap {w w':World}(h:Ext w w') {k:Nat}(hk:k<w.heap.size):w'.heap[k]?=w.heap[k]?:=h.block k hk id
theorem Ext.cell {w w':World}(h:Ext w w') {p:Addr}(hp:p.block<w.heap.size):w'.cell? p=w.cell? p:=World.cell?_of_block (w:=w) (h.heap hp)
theorem Ext.cell_some {w w':World}(h:Ext w w') {p:Addr} {v:Value}(hv:w.cell? p=some v):w'.cell? p=some v:=
 (h.cell (World.block_lt_of_cell? w p hv)).trans hv
def Blk (w:World) (g:Nat) (t:TypeId) (cs:Array Value):Prop:=w.heap[g]?=some (.cells cs t (0,0))
section
variable {w w':World} {g:Nat} {t:TypeId} {cs:Array Value}
theorem Blk.lt (h:Blk w g t cs):g<w.heap.size:=by
 rcases Nat.lt_or_ge g w.heap.size with hlt|hge
 ·exact hlt
 ·unfold Blk at h;rw [Array.getElem?_eq_none hge] at h;cases h
theorem Blk.cell (h:Blk w g t cs) (i:Nat):w.cell? ⟨g,i,none⟩=cs[i]?:=cell_of_row w g i cs t (0,0) h
theorem Blk.frozen (h:Blk w g t cs) (i:Nat):w.frozen? ⟨g,i,none⟩=false:=by
 unfold Blk at h
 simp [World.frozen?,h]
theorem Blk.new (w:World) (t:TypeId) (cs:Array Value):Blk (w.alloc (.cells cs t)) w.heap.size t cs:=heap_alloc_new w _
theorem Blk.ext (h:Blk w g t cs)(hb:Ext w w'):Blk w' g t cs:=(hb.heap h.lt).trans h
theorem Blk.cells (h:Blk w g t cs):∀ W,Ext w W→∀ i,W.cell? ⟨g,i,none⟩=cs[i]?:=fun _ hW=>(h.ext hW).cell
theorem Blk.frm {S:Nat→Prop}(h:Blk w g t cs)(hb:Frm S w w')(hg:¬ S g):Blk w' g t cs:=(hb.block g h.lt hg).trans h
theorem Blk.set_ (h:Blk w g t cs) (i:Nat) (u:Value):Blk (w.setCell ⟨g,i,none⟩ u) g t (cs.setIfInBounds i u):=by
 unfold Blk at h ⊢
 simp [World.setCell,Array.getElem?_modify,h]
end
theorem zbu {w w':World} {cs:Array Value} {t:TypeId}(h:Ext (w.alloc (.cells cs t)) w'):Blk w' w.heap.size t cs:=(Blk.new w t cs).ext h
theorem zR {w w':World} {cs ds:Array Value} {t u:TypeId}(h:Ext ((w.alloc (.cells cs t)).alloc (.cells ds u)) w'):Blk w' w.heap.size t cs∧Blk w' (w.heap.size+1) u ds:=by
 refine⟨zbu (((Ext.refl _).alloc _).trans h),?_⟩
 have:=zbu h
 simpa using this
theorem zZ {w w':World} {cs ds es:Array Value} {t u v:TypeId}(h:Ext (((w.alloc (.cells cs t)).alloc (.cells ds u)).alloc (.cells es v)) w'):Blk w' w.heap.size t cs∧Blk w' (w.heap.size+1) u ds∧Blk w' (w.heap.size+1+1) v es:=by
 have h2:=zR (((Ext.refl _).alloc _).trans h)
 refine⟨h2.1,h2.2,?_⟩
 have:=zbu h
 simpa using this
theorem Blk.far {w:World} {g:Nat} {t:TypeId} {cs:Array Value}(h:Blk w g t cs) {p:Addr}(hp:g≠p.block) (u:Value):Blk (w.setCell p u) g t cs:=(Below.heap_setCell w p u g hp).trans h
theorem zbA {w w':World} {cs:Array Value} {t:TypeId}(h:Ext (w.alloc (.cells cs t)) w'):∀ j,w'.cell? ⟨w.heap.size,j,none⟩=cs[j]?:=(zbu h).cell
def Reads (w:World) (lo hi size:Nat) (A:Option Addr) (n:Nat) (xs:List Value):Prop:=
 xs.length=n*size∧n≤9223372036854775807∧(0<n→∃ ad,A=some ad∧lo≤ad.block∧ad.block<hi∧∀ j u,xs[j]?=some u→w.cell? (ad.add j)=some u)
section
variable {w w':World} {lo hi size n:Nat} {A:Option Addr} {xs:List Value}
theorem Reads.nil:Reads w lo hi size A 0 []:=⟨by simp,by omega,fun h=>absurd h (by omega)⟩
theorem Reads.len (h:Reads w lo hi size A n xs):n≤9223372036854775807:=h.2.1
theorem Reads.length (h:Reads w lo hi size A n xs):xs.length=n*size:=h.1
theorem Reads.at_ {k:Nat}(h:Reads w lo hi size A n xs)(hk:k<n):∃ ad,A=some ad∧lo≤ad.block∧ad.block<hi∧∀ j u,xs[j]?=some u→w.cell? (ad.add j)=some u:=h.2.2 (by omega)
theorem Reads.one {k:Nat}(h:Reads w lo hi 1 A n xs)(hk:k<n):∃ ad u,A=some ad∧lo≤ad.block∧ad.block<hi∧Hid (xs[k]?=some u)∧w.cell? (ad.add k)=some u:=by
 obtain⟨ad,e,hl,hb,hc⟩:=h.2.2 (by omega)
 have hx:k<xs.length:=by have:=h.1;omega
 exact⟨ad,xs[k],e,hl,hb,List.getElem?_eq_getElem hx,hc k _ (List.getElem?_eq_getElem hx)⟩
theorem Reads.more {lo' hi':Nat}(h:Reads w lo hi size A n xs)(hL:lo'≤lo)(hH:hi≤hi'):Reads w lo' hi' size A n xs:=
 ⟨h.1,h.2.1,fun hn=>by
  obtain⟨ad,e,hl,hb,hc⟩:=h.2.2 hn
  exact⟨ad,e,by omega,by omega,hc⟩⟩
theorem Reads.ext (h:Reads w lo hi size A n xs)(hb:Ext w w'):Reads w' lo hi size A n xs:=
 ⟨h.1,h.2.1,fun hn=>by
  obtain⟨ad,e,hl,hi,hc⟩:=h.2.2 hn
  exact⟨ad,e,hl,hi,fun j u hu=>hb.cell_some (hc j u hu)⟩⟩
theorem Reads.frm {S:Nat→Prop}(h:Reads w lo hi size A n xs)(hb:Frm S w w')(hS:∀ k,lo≤k→k<hi→¬ S k):Reads w' lo hi size A n xs:=
 ⟨h.1,h.2.1,fun hn=>by
  obtain⟨ad,e,hl,hi,hc⟩:=h.2.2 hn
  refine⟨ad,e,hl,hi,fun j u hu=>?_⟩
  have hcell:=hc j u hu
  have hlt:=World.block_lt_of_cell? w _ hcell
  exact (World.cell?_of_block (w:=w) (hb.block _ hlt (by rw [zdk];exact hS _ hl hi))).trans hcell⟩
theorem Reads.of_own {base:Nat} {e:TypeId} {c:Nat}(h:w.ownsRow base e size (.slice A n c) n xs):Reads w base w.heap.size size A n xs:=by
 rcases h.2 with ⟨h',h0⟩|⟨g,cap,cur,hv,hb,hg,hnc,hcm,_,htake⟩
 ·subst h0
  have hx:xs=[]:=List.eq_nil_of_length_eq_zero (by simpa using h.1)
  subst hx
  exact Reads.nil
 ·have hA:A=some ⟨g,0,none⟩:=by injection hv
  subst hA
  exact⟨h.1,by unfold maxLen at hcm;omega,fun _=>⟨_,rfl,hb,(Array.getElem?_eq_some_iff.1 hg).1,h.cells (g:=g) rfl⟩⟩
end
theorem zP {P:Program} (wb w:World) {ops:Array Oper} {rest:List Oper} {o:Oper} {a:Act} {Q:Exit→Act→World→Prop}(hgd:o.guard=none) (s x:Operand) (t:TypeId)
  (ho:o.op=.call { callee:=.builtin .append,args:=#[s,x],argTypes:=#[t,t] })
  (e:TypeId) (z:Value) (size bytes:Nat) (ht:P.underlying t=some (.slice e)) (hi:(P.info? e).map (fun i=>(i.zero,i.size,i.bytes))=some (some z,size,bytes)) (hzs:z.cells.size=size) (hsz:0<size)
  (v:Value) (n:Nat) (xs:List Value) (us:Array Value) (e':TypeId) (hs:a.eval s=v) (hx:a.eval x=.slice (some ⟨w.heap.size,0,none⟩) 1 1)
  (hext:Ext wb w) (hown:w.ownsRow wb.heap.size e size v n xs) (hus:us.size=size) (h1:∀ u∈us.toList,u.oneCell'=true)
  (h63:n+1≤maxLen) (hbytes:(n+1)*bytes≤140737488355328)
  (h:∀ v' w',Ext wb w'→w'.ownsRow wb.heap.size e size v' (n+1) (xs++us.toList)→w.grownBy w' v.ownBlock→(v'.ownBlock=v.ownBlock∨v'.ownBlock=some (w.heap.size+1))→wpList P ops Q rest (a.put o.dst v') w') :
  wpList P ops Q (o :: rest) a (w.alloc (.cells us e')):=by
 obtain⟨i,hi0,hz0,hz1,hz2⟩:=info_parts hi
 refine wpList_append_own_at (w.alloc (.cells us e')) hgd s x t ho wb.heap.size e i z size bytes ht hi0 hz0 hz1 hz2 hzs hsz v n xs hs (hown.alloc _) ⟨w.heap.size,0,none⟩ 1 1 us.toList hx (by simpa using hus) ?_ h1 h63 hbytes (by have:=hext.size;simp;omega) ?_
 ·intro j u hu
  rw [zO,Nat.zero_add,(Blk.new w e' us).cell]
  simpa using hu
 ·intro v' w' hown' hg _ hat
  have hg':w.grownBy w' v.ownBlock:=⟨hg.os,hg.tape,hg.output,Nat.le_trans (by simp) hg.size,fun k hk hne=>(hg.block k (by simp;omega) hne).trans (Below.heap_alloc w _ k hk)⟩
  exact h v' w' (hext.grown hg' (fun k hk=>(hown.lt k hk).1)) hown' hg' (by simpa using hat)
theorem zbE {P:Program} (wb w:World) {ops:Array Oper} {rest:List Oper} {o:Oper} {a:Act} {Q:Exit→Act→World→Prop}(hgd:o.guard=none) (l c:Operand) (t:TypeId)(ho:o.op=.makeSlice t l c)
  (e:TypeId) (z:Value) (size bytes:Nat) (ht:P.underlying t=some (.slice e)) (hi:(P.info? e).map (fun i=>(i.zero,i.size,i.bytes))=some (some z,size,bytes))
  (kl kc:IntKind) (n:Nat) (hl:a.eval l=.int kl (n:Int)) (hc:a.eval c=.int kc (n:Int)) (hext:Ext wb w) (hbytes:n*bytes≤140737488355328) (h63:n≤maxLen)
  (h:∀ w',Ext wb w'→w'.ownsRow wb.heap.size e size (.slice (some ⟨w.heap.size,0,none⟩) n n) n (madeCells z.cells (n*size)).toList→Ext w w'→w.heap.size<w'.heap.size→wpList P ops Q rest (a.put o.dst (.slice (some ⟨w.heap.size,0,none⟩) n n)) w') :
  wpList P ops Q (o :: rest) a w:=by
 obtain⟨i,hi0,hz0,hz1,hz2⟩:=info_parts hi
 refine wpList_make_full w hgd l c t ho wb.heap.size e i z size ht hi0 hz0 hz1 kl kc n n n hl hc rfl rfl (by rw [hz2,Nat.mul_comm];omega) h63 hext.size ?_
 intro w' hown hg
 refine h w' (hext.grown hg (by simp)) hown ((Ext.refl _).grown hg (by simp)) ?_
 rcases hown.2 with ⟨h',_⟩|⟨g,cap,cur,h',_,hh,_⟩
 ·simp at h'
 ·have:w.heap.size=g:=by injection h' with h1;injection h1 with h1;injection h1
  subst this
  exact (Array.getElem?_eq_some_iff.1 hh).1
theorem zh {w:World} {base:Nat} {e:TypeId} {size:Nat} {v:Value} {n:Nat} {xs:List Value}(h:w.ownsRow base e size v n xs):∃ A c,v=.slice A n c:=by
 rcases h.2 with ⟨rfl,h0⟩|⟨g,cap,cur,rfl,_⟩
 ·exact⟨none,0,by rw [h0]⟩
 ·exact⟨_,_,rfl⟩
theorem zaZ (n:Int):∀ u∈(#[Value.int .i64 n]:Array Value).toList,u.oneCell'=true:=by simp [Value.oneCell']
theorem cells_u8 (n:Int):∀ u∈(#[Value.int .u8 n]:Array Value).toList,u.oneCell'=true:=by simp [Value.oneCell']
theorem zaP (A:Option Addr) (n c:Nat):∀ u∈(#[Value.slice A n c]:Array Value).toList,u.oneCell'=true:=by simp [Value.oneCell']
def ints (l:List Int):List Value:=l.map (Value.int .i64)
theorem zdN (l:List Int):(ints l).length=l.length:=by simp [ints]
def zaz (l:List Bool):List Value:=l.map Value.bool
theorem zeK (l:List Bool):(zaz l).length=l.length:=by simp [zaz]
theorem ints_get {l:List Int} {k:Nat} {u:Value}(h:(ints l)[k]?=some u):∃ n,l[k]?=some n∧u=.int .i64 n:=by
 simp only [ints,List.getElem?_map,Option.map_eq_some_iff] at h
 obtain⟨n,hn,rfl⟩:=h
 exact⟨n,hn,rfl⟩
theorem bools_get {l:List Bool} {k:Nat} {u:Value}(h:(zaz l)[k]?=some u):∃ n,l[k]?=some n∧u=.bool n:=by
 simp only [zaz,List.getElem?_map,Option.map_eq_some_iff] at h
 obtain⟨n,hn,rfl⟩:=h
 exact⟨n,hn,rfl⟩
theorem Reads.int {w:World} {lo hi n k:Nat} {A:Option Addr} {l:List Int}(h:Reads w lo hi 1 A n (ints l))(hk:k<n):∃ ad x,A=some ad∧lo≤ad.block∧ad.block<hi∧Hid (l[k]?=some x)∧w.cell? (ad.add k)=some (.int .i64 x):=by
 obtain⟨ad,u,e,hl,hb,hx,hc⟩:=h.one hk
 obtain⟨x,hx',rfl⟩:=ints_get hx.out
 exact⟨ad,x,e,hl,hb,hx',hc⟩
theorem Reads.bool {w:World} {lo hi n k:Nat} {A:Option Addr} {l:List Bool}(h:Reads w lo hi 1 A n (zaz l))(hk:k<n):∃ ad x,A=some ad∧lo≤ad.block∧ad.block<hi∧Hid (l[k]?=some x)∧w.cell? (ad.add k)=some (.bool x):=by
 obtain⟨ad,u,e,hl,hb,hx,hc⟩:=h.one hk
 obtain⟨x,hx',rfl⟩:=bools_get hx.out
 exact⟨ad,x,e,hl,hb,hx',hc⟩
def zdx (w:World) (lo hi:Nat) (rows:List Value) (ls:List (List Int)):Prop:=
 rows.length=ls.length∧∀ (i:Nat) (row:Value) (l:List Int),rows[i]?=some row→ls[i]?=some l→∃ A c,row=.slice A l.length c∧Reads w lo hi 1 A l.length (ints l)
def zbh (w:World) (lo hi:Nat) (A:Option Addr) (n:Nat) (ls:List (List Int)):Prop:=
 n=ls.length∧∃ rows,Reads w lo hi 1 A n rows∧zdx w lo hi rows ls
section
variable {w w':World} {lo hi n k:Nat} {A:Option Addr} {ls:List (List Int)} {rows:List Value}
theorem zdx.ext (h:zdx w lo hi rows ls)(hb:Ext w w'):zdx w' lo hi rows ls:=
 ⟨h.1,fun i row l hr hl=>by
  obtain⟨A,c,e,hx⟩:=h.2 i row l hr hl
  exact⟨A,c,e,hx.ext hb⟩⟩
theorem zbh.ext (h:zbh w lo hi A n ls)(hb:Ext w w'):zbh w' lo hi A n ls:=by
 obtain⟨e,rows,hr,hx⟩:=h
 exact⟨e,rows,hr.ext hb,hx.ext hb⟩
theorem zdx.frm {S:Nat→Prop}(h:zdx w lo hi rows ls)(hb:Frm S w w')(hS:∀ k,lo≤k→k<hi→¬ S k):zdx w' lo hi rows ls:=
 ⟨h.1,fun i row l hr hl=>by
  obtain⟨A,c,e,hx⟩:=h.2 i row l hr hl
  exact⟨A,c,e,hx.frm hb hS⟩⟩
theorem zbh.frm {S:Nat→Prop}(h:zbh w lo hi A n ls)(hb:Frm S w w')(hS:∀ k,lo≤k→k<hi→¬ S k):zbh w' lo hi A n ls:=by
 obtain⟨e,rows,hr,hx⟩:=h
 exact⟨e,rows,hr.frm hb hS,hx.frm hb hS⟩
theorem zdx.more {lo' hi':Nat}(h:zdx w lo hi rows ls)(hL:lo'≤lo)(hH:hi≤hi'):zdx w lo' hi' rows ls:=
 ⟨h.1,fun i row l hr hl=>by
  obtain⟨A,c,e,hx⟩:=h.2 i row l hr hl
  exact⟨A,c,e,hx.more hL hH⟩⟩
theorem zbh.more {lo' hi':Nat}(h:zbh w lo hi A n ls)(hL:lo'≤lo)(hH:hi≤hi'):zbh w lo' hi' A n ls:=by
 obtain⟨e,rows,hr,hx⟩:=h
 exact⟨e,rows,hr.more hL hH,hx.more hL hH⟩
theorem zbh.len (h:zbh w lo hi A n ls):n≤9223372036854775807:=by
 obtain⟨_,rows,hr,_⟩:=h
 exact hr.len
theorem zbh.row (h:zbh w lo hi A n ls)(hk:k<n):∃ ad Ak ck l,A=some ad∧lo≤ad.block∧ad.block<hi∧Hid (ls[k]?=some l)∧w.cell? (ad.add k)=some (.slice Ak l.length ck)∧Reads w lo hi 1 Ak l.length (ints l):=by
 obtain⟨e,rows,hr,hx⟩:=h
 obtain⟨ad,u,eA,hl,hb,hu,hc⟩:=hr.one hk
 have hlt:k<ls.length:=by omega
 obtain⟨Ak,ck,rfl,hrk⟩:=hx.2 k u ls[k] hu.out (List.getElem?_eq_getElem hlt)
 exact⟨ad,Ak,ck,ls[k],eA,hl,hb,List.getElem?_eq_getElem hlt,hc,hrk⟩
end
section
variable {w w':World} {base base' size size' n n':Nat} {e e':TypeId} {v v':Value} {xs xs':List Value}
theorem zf (h:w.ownsRow base e size v n xs)(hb:Ext w w'):w'.ownsRow base e size v n xs:=by
 refine⟨h.1,?_⟩
 rcases h.2 with hn|⟨g,cap,cur,hv,hg,hh,r⟩
 ·exact .inl hn
 ·exact .inr ⟨g,cap,cur,hv,hg,(hb.heap (Array.getElem?_eq_some_iff.1 hh).1).trans hh,r⟩
theorem ze {S:Nat→Prop}(h:w.ownsRow base e size v n xs)(hb:Frm S w w')(hS:∀ b,v.ownBlock=some b→¬ S b):w'.ownsRow base e size v n xs:=by
 refine⟨h.1,?_⟩
 rcases h.2 with hn|⟨g,cap,cur,hv,hg,hh,r⟩
 ·exact .inl hn
 ·exact .inr ⟨g,cap,cur,hv,hg,(hb.block g (Array.getElem?_eq_some_iff.1 hh).1 (hS g (by rw [hv];rfl))).trans hh,r⟩
theorem zay {S:Nat→Prop}(h:w.ownsRow base e size v n xs)(hb:Frm S w w')(hS:∀ b,base≤b→¬ S b):w'.ownsRow base e size v n xs:=ze h hb fun b hv=>hS b (h.lt b hv).1
theorem zn (h:w.ownsRow base e size v n xs)(hb:base'≤base):w.ownsRow base' e size v n xs:=by
 refine⟨h.1,?_⟩
 rcases h.2 with hn|⟨g,cap,cur,hv,hg,r⟩
 ·exact .inl hn
 ·exact .inr ⟨g,cap,cur,hv,by omega,r⟩
theorem zaT (h:w.ownsRow base e size v n xs)(h':w.ownsRow base' e' size' v' n' xs')(hne:e≠e') {b:Nat}(hb:v.ownBlock=some b):v'.ownBlock≠some b:=by
 rcases h.2 with ⟨rfl,_⟩|⟨g,cap,cur,rfl,_,hh,_⟩
 ·simp [Value.ownBlock] at hb
 ·rcases h'.2 with ⟨rfl,_⟩|⟨g',cap',cur',rfl,_,hh',_⟩
  ·simp [Value.ownBlock]
  ·have hb1:g=b:=by simpa [Value.ownBlock] using hb
   subst hb1
   intro he
   have hg:g'=g:=by simpa [Value.ownBlock] using he
   subst hg
   rw [hh] at hh'
   injection hh' with hh'
   injection hh' with _ ht
   exact hne ht
theorem zaN {g n cap:Nat}(h:w.ownsRow base e size (.slice (some ⟨g,0,none⟩) n cap) n xs) (j:Nat)(hj:j<n*size):∃ u,w.cell? ⟨g,j,none⟩=some u:=by
 have hx:j<xs.length:=by rw [h.1];exact hj
 exact⟨xs[j],by rw [h.cellAt j hj,List.getElem?_eq_getElem hx]⟩
theorem zeB (h:w.ownsRow base e size v n xs):xs.length=n*size:=h.1
end
theorem Ext.toFrm {w w':World} {S:Nat→Prop}(h:Ext w w'):Frm S w w':=⟨h.os,h.tape,h.output,h.size,fun k hk _=>h.block k hk id⟩
theorem Frm.of_grown {w w':World} {row:Option Nat}(h:w.grownBy w' row):Frm (fun k=>row=some k) w w':=
 ⟨h.os,h.tape,h.output,h.size,fun k hk hn=>h.block k hk (fun e=>hn e.symm)⟩
theorem Frm.setCell (w:World) (g j:Nat) (u:Value):Frm (fun k=>k=g) w (w.setCell ⟨g,j,none⟩ u):=
 ⟨rfl,rfl,rfl,by simp [World.setCell],fun k _ hn=>Below.heap_setCell _ _ _ _ hn⟩
theorem Frm.trans {S:Nat→Prop} {a b c:World}(h:Frm S a b) (k:Frm S b c):Frm S a c:=
 ⟨k.os.trans h.os,k.tape.trans h.tape,k.output.trans h.output,Nat.le_trans h.size k.size,fun i hi hn=>(k.block i (Nat.lt_of_lt_of_le hi h.size) hn).trans (h.block i hi hn)⟩
theorem Frm.mono {S T:Nat→Prop} {a b:World}(h:Frm S a b)(hS:∀ k,k<a.heap.size→S k→T k):Frm T a b:=
 ⟨h.os,h.tape,h.output,h.size,fun k hk hn=>h.block k hk (fun hs=>hn (hS k hk hs))⟩
theorem Frm.refl (S:Nat→Prop) (w:World):Frm S w w:=⟨rfl,rfl,rfl,Nat.le_refl _,fun _ _ _=>rfl⟩
theorem Frm.cell {S:Nat→Prop} {a w:World}(h:Frm S a w) {p:Addr}(hp:S p.block) (u:Value):Frm S a (w.setCell p u):=
 ⟨h.os,h.tape,h.output,by simpa [World.setCell] using h.size,fun k hk hn=>(Below.heap_setCell _ _ _ _ (by rintro rfl;exact hn hp)).trans (h.block k hk hn)⟩
theorem Frm.ext {S:Nat→Prop} {a w w':World}(h:Frm S a w)(hb:Ext w w'):Frm S a w':=h.trans hb.toFrm
theorem Ext.frm {S:Nat→Prop} {a b c:World}(h:Ext a b) (k:Frm S b c)(hS:∀ k,k<a.heap.size→¬ S k):Ext a c:=
 ⟨k.os.trans h.os,k.tape.trans h.tape,k.output.trans h.output,Nat.le_trans h.size k.size,fun i hi hn=>(k.block i (Nat.lt_of_lt_of_le hi h.size) (hS i hi)).trans (h.block i hi hn)⟩
section
variable {α:Type} {l:List α} {p:α→Bool} {k:Nat} {x:α}
theorem zaw (h:l[k]?=some x)(hp:p x=false):l.all p=false:=
 List.all_eq_false.2 ⟨x,List.mem_of_getElem? h,by simp [hp]⟩
theorem zbN (h:l[k]?=some x)(hk:(l.take k).all p=true)(hp:p x=true):(l.take (k+1)).all p=true:=by
 rw [List.take_add_one,h,List.all_append,hk]
 simp [hp]
theorem zdE (hk:l.length≤k)(h:(l.take k).all p=true):l.all p=true:=by
 rwa [List.take_of_length_le hk] at h
end
def Sm (n:Nat):Prop:=n<4294967296
theorem Sm.lt {n:Nat}(h:Sm n):n<4294967296:=h
theorem Sm.or {a b:Nat}(ha:Sm a)(hb:Sm b):Sm (a|||b):=Nat.or_lt_two_pow (n:=32) ha hb
theorem Sm.and_left {a:Nat} (b:Nat)(ha:Sm a):Sm (a&&&b):=Nat.lt_of_le_of_lt Nat.and_le_left ha
theorem Sm.bit {n:Nat}(h:n<32):Sm (2 ^ n):=Nat.pow_lt_pow_right (by omega) h
theorem zct (a:Nat)(ha:a<9223372036854775808):(BitVec.ofInt 64 (a:Int)).toNat=a:=by
 rw [BitVec.ofInt_natCast,BitVec.toNat_ofNat];exact Nat.mod_eq_of_lt (by omega)
theorem zbt {a b:Nat}(ha:Sm a)(hb:Sm b):bits .and .i64 (a:Int) (b:Int)=((a&&&b:Nat):Int):=by
 have hx:=(Sm.and_left b ha).lt
 have:=ha.lt;have:=hb.lt
 show IntKind.i64.wrap ((BitVec.ofInt 64 (a:Int)&&&BitVec.ofInt 64 (b:Int)).toNat:Int)=_
 rw [BitVec.toNat_and,zct a (by omega),zct b (by omega),IntKind.wrap_i64]
 omega
theorem zaO {a b:Nat}(ha:Sm a)(hb:Sm b):bits .or .i64 (a:Int) (b:Int)=((a|||b:Nat):Int):=by
 have hx:=(Sm.or ha hb).lt
 have:=ha.lt;have:=hb.lt
 show IntKind.i64.wrap ((BitVec.ofInt 64 (a:Int)|||BitVec.ofInt 64 (b:Int)).toNat:Int)=_
 rw [BitVec.toNat_or,zct a (by omega),zct b (by omega),IntKind.wrap_i64]
 omega
theorem and_one {x:Nat}(hx:Sm x):bits .and .i64 (x:Int) 1=((x % 2:Nat):Int):=by
 have:=zbt hx (b:=1) (by unfold Sm;omega)
 rw [nat_mask1] at this
 exact this
theorem div_pow (x n:Nat):(x:Int) / 2 ^ n=((x / 2 ^ n:Nat):Int):=by simp
theorem zhb {x n:Nat}(hx:Sm x)(hn:32≤n):x.testBit n=false:=
 Nat.testBit_lt_two_pow (Nat.lt_of_lt_of_le hx.lt (by rw [show (4294967296:Nat)=2 ^ 32 from rfl];exact Nat.pow_le_pow_right (by omega) hn))
theorem zfK {x:Nat}(hx:Sm x) (n:Nat):(bits .and .i64 ((x:Int) / 2 ^ min n 64) 1==1)=x.testBit n:=by
 rw [div_pow,and_one (Nat.lt_of_le_of_lt (Nat.div_le_self _ _) hx)]
 by_cases hn:n≤64
 ·rw [Nat.min_eq_left hn,Nat.testBit_eq_decide_div_mod_eq]
  rw [Bool.eq_iff_iff]
  simp only [beq_iff_eq,decide_eq_true_eq]
  omega
 ·rw [Nat.min_eq_right (by omega),zhb hx (by omega)]
  have:x / 2 ^ 64=0:=Nat.div_eq_of_lt (Nat.lt_trans hx.lt (by decide))
  rw [this];decide
def hasB (s:Nat) (n:Int):Bool:=decide (0≤n)&&s.testBit n.toNat
def letters (a k:Nat):List Nat:=(List.range k).filter fun l=>a.testBit l
theorem zaR (a k:Nat):letters a (k+1)=letters a k++if a.testBit k then [k] else []:=by
 unfold letters
 rw [List.range_succ,List.filter_append]
 cases h:a.testBit k<;>simp [h]
theorem zy (a k:Nat):(letters a k).length≤k:=by
 unfold letters
 have:=List.length_filter_le (fun l=>a.testBit l) (List.range k)
 simpa using this
def nats (l:List Nat):List Value:=l.map fun n:Nat=>Value.int .i64 (n:Int)
theorem nats_length (l:List Nat):(nats l).length=l.length:=by simp [nats]
set_option maxHeartbeats 400000
theorem zaq (a:Int) (w:World) :
  Calls Tryz.prog 49 #[.int .i64 a] w fun e w'=>e=.returned (.bool (decide (0≤a∧a≤63)))∧w=w':=by
 by_cases h0:0≤a
 ·go_enter Tryz.func49,Tryz.ntmps49
  go_wp2
  go_ret
  exact⟨by simp [h0],rfl⟩
 ·go_enter Tryz.func49,Tryz.ntmps49
  go_wp2
  go_ret
  exact⟨by simp;omega,rfl⟩
theorem zM (a:Int) (w:World) :
  Calls Tryz.prog 96 #[.int .i64 a] w fun e w'=>e=.returned (.bool (decide (0≤a∧a≤63)))∧w=w':=by
 by_cases h0:0≤a
 ·go_enter Tryz.func96,Tryz.ntmps96
  go_wp2
  go_ret
  exact⟨by simp [h0],rfl⟩
 ·go_enter Tryz.func96,Tryz.ntmps96
  go_wp2
  go_ret
  exact⟨by simp;omega,rfl⟩
theorem zbT (s:ByteArray) (i:Nat)(h:i<s.size):(s[i].toNat:Int)<256:=by
 have:=s[i].toNat_lt
 omega
def ltr (b:Int):Int:=if b - 97<0∨6≤b - 97 then -1 else b - 97
theorem zk {a b:Bool}(h:a=b):Ending.returned (.bool a)=.returned (.bool b):=by rw [h]
theorem zE {k:IntKind} {a b:Int}(h:a=b):Ending.returned (.int k a)=.returned (.int k b):=by rw [h]
theorem zbb (s:ByteArray) (i:Nat)(hi:i<s.size) (w:World) :
  Calls Tryz.prog 148 #[.string s,.int .i64 i] w fun e w'=>e=.returned (.int .i64 (s[i].toNat - 97))∧w=w':=by
 have hb:=zbT s i hi
 go_enter Tryz.func148,Tryz.ntmps148
 go_wp2
 go_ret
 exact⟨rfl,rfl⟩
theorem zad (s n:Nat)(hs:Sm s) (w:World)(hn:n<9223372036854775808) :
  Calls Tryz.prog 147 #[.int .i64 s,.int .i64 n] w fun e w'=>e=.returned (.bool (s.testBit n))∧w=w':=by
 have hu:IntKind.u64.wrap (n:Int)=n:=by rw [IntKind.wrap_u64];omega
 have hb:=zfK hs n
 have Hb:=hide hb
 clear hb
 go_enter Tryz.func147,Tryz.ntmps147
 go_wp2
 go_ret
 exact⟨by simp [Hb.out],rfl⟩
theorem zdn (s:Nat) (n:Int)(hs:Sm s) (w:World) :
  Calls Tryz.prog 101 #[.int .i64 s,.int .i64 n] w fun e w'=>e=.returned (.bool (hasB s n))∧w=w':=by
 have hb:=zfK hs n.toNat
 have Hb:=hide hb
 clear hb
 by_cases h0:0≤n
 ·go_enter Tryz.func101,Tryz.ntmps101
  go_wp2
  go_ret
  exact⟨by simp [Hb.out,hasB,h0],rfl⟩
 ·go_enter Tryz.func101,Tryz.ntmps101
  go_wp2
  go_ret
  exact⟨by simp [hasB];omega,rfl⟩
theorem zY:(Tryz.prog.info? 3).map (fun i=>(i.zero,i.size,i.bytes))=some (some (.int .i64 0),1,8):=by kernel_rfl
def zbr (w:World) (xs:List Nat) (e:Ending) (w':World):Prop:=
 ∃ A c,e=.returned (.slice A xs.length c)∧w'.ownsRow w.heap.size 3 1 (.slice A xs.length c) xs.length (nats xs)∧Ext w w'
theorem yH01a2 {P:Prop}(h:P:=by
 go_roundw
 case rel=>exact⟨k+1,by omega,by go_num,by rw [Hls.out];first|simpa [nats] using hown1|simpa using hown,by assumption⟩
 case measure=>simp [intOf];omega
 ):P:=h
theorem zbF (a:Nat)(hs:Sm a) (w:World) :
  Calls Tryz.prog 50 #[.int .i64 a] w (zbr w (letters a 6)):=by
 go_enter Tryz.func50,Tryz.ntmps50
 go_wp2
 go_loopw [3,5] (fun v i wr=>∃ k:Nat,k≤6∧i=.int .i64 k∧wr.ownsRow w.heap.size 3 1 v (letters a k).length (nats (letters a k))∧Ext w wr)
  (fun _ i _=>6 - (intOf i).toNat)
 case atStart=>exact⟨0,Nat.zero_le _,rfl,World.ownsRow_nil _ _ _ _,Ext.refl _⟩
 case round =>
  obtain⟨k,hk,rfl,hown,hext⟩:=hrel
  have hl:=zy a k
  by_cases hlt:k<6
  ·cases hb:a.testBit k
   all_goals
    have Hb:hasB a k=a.testBit k:=by simp [hasB]
    rw [hb] at Hb
    have hls:=zaR a k
    rw [hb] at hls
    have Hls:=hide hls
    clear hls hb
    go_wp2_with (first
     |(go_at_call 101;refine (zdn a k hs _).mono ?_;rintro e w' ⟨rfl,rfl⟩)
     |(at_builtin;refine zP w wr rfl (.tmp 11) (.tmp 13) _ rfl 3 _ 1 8 Tryz.underlying71 zY rfl (by decide) u3 _ _ _ _ rfl rfl hext hown rfl (zaZ _) (by unfold maxLen;omega) (by omega) ?_;intro v' w1 hext1 hown1 hg1 hat1))
    exact yH01a2
  ·obtain rfl:k=6:=by omega
   obtain⟨A,c,rfl⟩:=zh hown
   go_wp2
   go_ret
   exact⟨_,_,rfl,hown,hext⟩
set_option maxHeartbeats 400000
def tot (ls:List (List Int)):Nat:=(ls.map List.length).sum
theorem zhc {ls:List (List Int)} {k:Nat} {l:List Int}(h:ls[k]?=some l):tot (ls.take (k+1))=tot (ls.take k)+l.length:=by
 rw [List.take_add_one,h]
 simp [tot]
theorem tot_append (a b:List (List Int)):tot (a++b)=tot a+tot b:=by simp [tot]
theorem tot_take_le (ls:List (List Int)) (k:Nat):tot (ls.take k)≤tot ls:=by
 have h:=tot_append (ls.take k) (ls.drop k)
 rw [List.take_append_drop] at h
 omega
set_option maxHeartbeats 400000
structure Aut where
 al:Int
 next:List (List Int)
 acc:List Bool
def zF (w:World) (lo hi:Nat) (A:Option Addr) (n:Nat) (A':Option Addr) (n':Nat) (a:Aut):Prop:=
 zbh w lo hi A n a.next∧n'=a.acc.length∧Reads w lo hi 1 A' n' (zaz a.acc)
section
variable {w w':World} {lo hi n n':Nat} {A A':Option Addr} {a:Aut}
theorem zF.ext (h:zF w lo hi A n A' n' a)(hb:Ext w w'):zF w' lo hi A n A' n' a:=⟨h.1.ext hb,h.2.1,h.2.2.ext hb⟩
theorem zF.frm {S:Nat→Prop}(h:zF w lo hi A n A' n' a)(hb:Frm S w w')(hS:∀ k,lo≤k→k<hi→¬ S k):zF w' lo hi A n A' n' a:=⟨h.1.frm hb hS,h.2.1,h.2.2.frm hb hS⟩
theorem zF.more {lo' hi':Nat}(h:zF w lo hi A n A' n' a)(hL:lo'≤lo)(hH:hi≤hi'):zF w lo' hi' A n A' n' a:=⟨h.1.more hL hH,h.2.1,h.2.2.more hL hH⟩
theorem zF.n1 (h:zF w lo hi A n A' n' a):n=a.next.length:=h.1.1
theorem zF.n2 (h:zF w lo hi A n A' n' a):n'=a.acc.length:=h.2.1
end
def Aut.size (a:Aut):Nat:=a.next.length+tot a.next+a.acc.length
set_option maxHeartbeats 400000
theorem zba:(Tryz.prog.info? 4).map (fun i=>(i.zero,i.size,i.bytes))=some (some (.bool false),1,1):=by kernel_rfl
theorem zbV:(Tryz.prog.info? 71).map (fun i=>(i.zero,i.size,i.bytes))=some (some (.slice none 0 0),1,24):=by kernel_rfl
def zH (w:World) (base:Nat) (rows:List Value) (ls:List (List Int)):Prop:=
 rows.length=ls.length∧(∀ (i:Nat) (row:Value) (l:List Int),rows[i]?=some row→ls[i]?=some l→w.ownsRow base 3 1 row l.length (ints l)) ∧
  ∀ (i j:Nat) (ri rj:Value) (b:Nat),rows[i]?=some ri→rows[j]?=some rj→i≠j→ri.ownBlock=some b→rj.ownBlock≠some b
theorem zH.nil (w:World) (base:Nat):zH w base [] []:=⟨rfl,fun i row l h=>by simp at h,fun i j ri rj b h=>by simp at h⟩
theorem zH.ext {w w':World} {base:Nat} {rows:List Value} {ls:List (List Int)}(h:zH w base rows ls)(hb:Ext w w'):zH w' base rows ls:=
 ⟨h.1,fun i row l hr hl=>zf (h.2.1 i row l hr hl) hb,h.2.2⟩
theorem zH.row {w:World} {base:Nat} {rows:List Value} {ls:List (List Int)}(h:zH w base rows ls) {i:Nat} {row:Value}(hr:rows[i]?=some row):∃ l,ls[i]?=some l∧w.ownsRow base 3 1 row l.length (ints l):=by
 have hi:i<rows.length:=(List.getElem?_eq_some_iff.1 hr).1
 have hl:ls[i]?=some (ls[i]'(by rw [← h.1];exact hi)):=List.getElem?_eq_getElem _
 exact⟨_,hl,h.2.1 i row _ hr hl⟩
theorem zH.frm {S:Nat→Prop} {w w':World} {base:Nat} {rows:List Value} {ls:List (List Int)}(h:zH w base rows ls)(hb:Frm S w w')(hS:∀ (i:Nat) (row:Value) (b:Nat),rows[i]?=some row→row.ownBlock=some b→¬ S b):zH w' base rows ls:=
 ⟨h.1,fun i row l hr hl=>ze (h.2.1 i row l hr hl) hb (fun b hb=>hS i row b hr hb),h.2.2⟩
theorem zH.snoc {w w':World} {base:Nat} {rows:List Value} {ls:List (List Int)}(h:zH w base rows ls)(hb:Ext w w') {row:Value} {l:List Int}(hbase:base≤w.heap.size)(hrow:w'.ownsRow w.heap.size 3 1 row l.length (ints l)) :
  zH w' base (rows++[row]) (ls++[l]):=by
 have hlen:=h.1
 refine⟨by simp [hlen],fun i r m hr hm=>?_,fun i j ri rj b hri hrj hij hbi=>?_⟩
 ·rcases Nat.lt_trichotomy i rows.length with hi|hi|hi
  ·rw [List.getElem?_append_left hi] at hr
   rw [List.getElem?_append_left (by omega)] at hm
   exact zf (h.2.1 i r m hr hm) hb
  ·rw [List.getElem?_append_right (by omega),hi,Nat.sub_self] at hr
   rw [List.getElem?_append_right (by omega),hi,hlen,Nat.sub_self] at hm
   simp at hr hm
   subst hr;subst hm
   exact zn hrow hbase
  ·rw [List.getElem?_eq_none (by simp;omega)] at hr;cases hr
 ·have old:∀ (i:Nat) (r:Value) (b:Nat),i<rows.length→rows[i]?=some r→r.ownBlock=some b→b<w.heap.size:=fun i r b hi hr hb=>by
   obtain⟨m,_,ho⟩:=h.row hr
   exact (ho.lt b hb).2
  have new:∀ b,row.ownBlock=some b→w.heap.size≤b:=fun b hb=>(hrow.lt b hb).1
  have hi:i≤rows.length:=by have:=(List.getElem?_eq_some_iff.1 hri).1;simp at this;omega
  have hj:j≤rows.length:=by have:=(List.getElem?_eq_some_iff.1 hrj).1;simp at this;omega
  rcases Nat.lt_or_eq_of_le hi with hi|hi<;>rcases Nat.lt_or_eq_of_le hj with hj|hj
  ·rw [List.getElem?_append_left hi] at hri
   rw [List.getElem?_append_left hj] at hrj
   exact h.2.2 i j ri rj b hri hrj hij hbi
  ·rw [List.getElem?_append_left hi] at hri
   subst hj
   simp at hrj
   subst hrj
   intro hc
   have h1:=old i ri b hi hri hbi
   have h2:=new b hc
   omega
  ·rw [List.getElem?_append_left hj] at hrj
   subst hi
   simp at hri
   subst hri
   intro hc
   have h1:=old j rj b hj hrj hc
   have h2:=new b hbi
   omega
  ·omega
def zdV (w:World) (base:Nat) (v:Value) (ls:List (List Int)):Prop:=∃ rows,w.ownsRow base 71 1 v ls.length rows∧zH w base rows ls
theorem zdV.ext {w w':World} {base:Nat} {v:Value} {ls:List (List Int)}(h:zdV w base v ls)(hb:Ext w w'):zdV w' base v ls:=by
 obtain⟨rows,h1,h2⟩:=h
 exact⟨rows,zf h1 hb,h2.ext hb⟩
theorem zH.keep {S:Nat→Prop} {w w':World} {base:Nat} {rows:List Value} {ls:List (List Int)}(h:zH w base rows ls)(hb:Frm S w w')(hS:∀ b,base≤b→¬ S b):zH w' base rows ls:=
 ⟨h.1,fun i row l hr hl=>zay (h.2.1 i row l hr hl) hb hS,h.2.2⟩
theorem zH.less {w:World} {base base':Nat} {rows:List Value} {ls:List (List Int)}(h:zH w base rows ls)(hb:base'≤base):zH w base' rows ls:=
 ⟨h.1,fun i row l hr hl=>zn (h.2.1 i row l hr hl) hb,h.2.2⟩
theorem zdV.keep {S:Nat→Prop} {w w':World} {base:Nat} {v:Value} {ls:List (List Int)}(h:zdV w base v ls)(hb:Frm S w w')(hS:∀ b,base≤b→¬ S b):zdV w' base v ls:=by
 obtain⟨rows,h1,h2⟩:=h
 exact⟨rows,zay h1 hb hS,h2.keep hb hS⟩
theorem zdV.less {w:World} {base base':Nat} {v:Value} {ls:List (List Int)}(h:zdV w base v ls)(hb:base'≤base):zdV w base' v ls:=by
 obtain⟨rows,h1,h2⟩:=h
 exact⟨rows,zn h1 hb,h2.less hb⟩
theorem zdV.reads {w:World} {base:Nat} {A:Option Addr} {n c:Nat} {ls:List (List Int)}(h:zdV w base (.slice A n c) ls)(hn:n=ls.length):zbh w base w.heap.size A n ls:=by
 obtain⟨rows,h1,h2⟩:=h
 subst hn
 refine⟨rfl,rows,Reads.of_own h1,h2.1,fun i row l hr hl=>?_⟩
 have ho:=h2.2.1 i row l hr hl
 obtain⟨A',c',rfl⟩:=zh ho
 exact⟨A',c',rfl,Reads.of_own ho⟩
def zK (w:World) (base:Nat) (A:Option Addr) (n c:Nat) (A':Option Addr) (n' c':Nat) (a:Aut):Prop:=
 zdV w base (.slice A n c) a.next∧n=a.next.length∧w.ownsRow base 4 1 (.slice A' n' c') n' (zaz a.acc)∧n'=a.acc.length
theorem zK.ext {w w':World} {base:Nat} {A:Option Addr} {n c:Nat} {A':Option Addr} {n' c':Nat} {a:Aut}(h:zK w base A n c A' n' c' a)(hb:Ext w w'):zK w' base A n c A' n' c' a:=
 ⟨h.1.ext hb,h.2.1,zf h.2.2.1 hb,h.2.2.2⟩
theorem zK.keep {S:Nat→Prop} {w w':World} {base:Nat} {A:Option Addr} {n c:Nat} {A':Option Addr} {n' c':Nat} {a:Aut}(h:zK w base A n c A' n' c' a)(hb:Frm S w w')(hS:∀ b,base≤b→¬ S b):zK w' base A n c A' n' c' a:=
 ⟨h.1.keep hb hS,h.2.1,zay h.2.2.1 hb hS,h.2.2.2⟩
theorem zK.less {w:World} {base base':Nat} {A:Option Addr} {n c:Nat} {A':Option Addr} {n' c':Nat} {a:Aut}(h:zK w base A n c A' n' c' a)(hb:base'≤base):zK w base' A n c A' n' c' a:=
 ⟨h.1.less hb,h.2.1,zn h.2.2.1 hb,h.2.2.2⟩
theorem zK.reads {w:World} {base:Nat} {A:Option Addr} {n c:Nat} {A':Option Addr} {n' c':Nat} {a:Aut}(h:zK w base A n c A' n' c' a):zF w base w.heap.size A n A' n' a:=
 ⟨h.1.reads h.2.1,h.2.2.2,Reads.of_own h.2.2.1⟩
def RetAut (w:World) (a:Aut) (e:Ending) (w':World):Prop:=
 ∃ A n c A' n' c',e=.returned (.agg #[.int .i64 a.al,.slice A n c,.slice A' n' c'])∧zK w' w.heap.size A n c A' n' c' a∧Ext w w'
def zbC:Op→Bool
 |.move _ | .assign _ | .pick _ _ _ | .binOp _ _ _ _ _ | .unOp _ _ _ | .load _ _ | .fieldAddr _ _ _ | .field _ _ _ | .indexAddr _ _ _ | .index _ _ _ | .extract _ _ | .build _ _ | .slice _ _ _ _ _ | .convert _ _ _=>true
 |.call { callee:=.builtin .len,.. }=>true
 |.call { callee:=.builtin .cap,.. }=>true
 |_=>false
def okOrd (l:List Oper):List Nat→Array Bool→Bool
 |[],listed=>(Region.ready .any l.toArray listed).isEmpty
 |i :: rest,listed =>
  (match l[i]? with
   |some o=>if zbC o.op then Region.free .any l.toArray listed i&&(Region.ready .any l.toArray listed).contains i else Region.ready .any l.toArray listed==[i]
   |none=>false)&&okOrd l rest (listed.setIfInBounds i true)
def zdw (P:Program) (l:List Oper) (Q:Exit→Act→World→Prop) (S:World→Prop):List Nat→Act→World→Prop
 |[],a,w=>Q .normal a w
 |i :: rest,a,w=>match l[i]? with
  |some o=>if zbC o.op then ∃ v,YieldsIf P l.toArray S o v a∧S w∧zdw P l Q S rest (a.put o.dst v) w
   else wpOp P l.toArray Q i (fun a' w'=>S w'∧zdw P l Q S rest a' w') a w
  |none=>False
section
variable {P:Program} {l:List Oper} {Q:Exit→Act→World→Prop} {S:World→Prop}
theorem zfJ (hs:Region.noSelect l.toArray=true)(hQ:∀ (c:List PanicEntry) (a:Act) (d:Tmp) (v:Value) (w:World),Q (.panic c) (a.put (some d) v) w→Q (.panic c) a w) :
  ∀ (ord:List Nat) (listed:Array Bool) (a:Act) (w:World),okOrd l ord listed=true→zdw P l Q S ord a w→wpAnyH P .any l.toArray Q S ord.length listed a w
 |[],listed,a,w,hok,h=>by
  simp only [okOrd,List.isEmpty_iff] at hok
  exact wpAnyH_done hok h 0
 |i :: rest,listed,a,w,hok,h=>by
  cases ho:l[i]? with
  |none=>simp [okOrd,ho] at hok
  |some o =>
   simp only [okOrd,ho,Bool.and_eq_true] at hok
   simp only [zdw,ho] at h
   by_cases hq:zbC o.op=true
   ·rw [if_pos hq] at hok h
    simp only [Bool.and_eq_true] at hok
    obtain⟨v,hy,hS,hr⟩:=h
    exact wpAnyH_take (by simpa using ho) hs hok.1.1 hok.1.2 (fun c a w h=>by cases hd:o.dst with|none=>rw [hd] at h;exact h|some d=>rw [hd] at h;exact hQ c a d v w h) hy hS (zfJ hs hQ rest _ _ _ hok.2 hr)
   ·rw [if_neg hq] at hok h
    refine wpAnyH_all (rs:=[i]) (by simpa using hok.1) (by simp) fun j hj=>?_
    rw [List.mem_singleton.1 hj]
    exact wpOp_mono (fun a' w' h=>⟨h.1,zfJ hs hQ rest _ _ _ hok.2 h.2⟩) h
theorem zU {id:Nat} {a:Act} {w:World} (S:World→Prop) (ord:List Nat)(hm:P.follows .mixedOrders=true)(hlen:ord.length=l.length)(hs:Region.noSelect l.toArray=true)(hok:okOrd l ord (Array.replicate l.length false)=true)
  (hQ:∀ (c:List PanicEntry) (a:Act) (d:Tmp) (v:Value) (w:World),Q (.panic c) (a.put (some d) v) w→Q (.panic c) a w) (hS:S w.drew) (h:S w.drew→zdw P l Q S ord a w.drew):(Code.region id l.toArray true).wp P Q a w:=by
 refine wp_region_held (S:=S) hm ?_
 have:=zfJ hs hQ ord _ a w.drew hok (h hS)
 rw [hlen] at this
 simpa using this
theorem zbK {a:Act} {w:World}(h:Q .normal a w):zdw P l Q S [] a w:=h
theorem zC {i:Nat} {rest:List Nat} {o:Oper} {v:Value} {a:Act} {w:World}(ho:l[i]?=some o)(hq:zbC o.op=true)(hw:Region.wanted o (yielded l.toArray a.tmps)=true)
  (hy:∀ W,S W→(execOp a.eval o).run P W=.ok (.value v) W) (hS:S w) (h:zdw P l Q S rest (a.put o.dst v) w):zdw P l Q S (i :: rest) a w:=by
 simp only [zdw,ho,hq,if_true]
 exact⟨v,.inl ⟨hw,hy⟩,hS,h⟩
theorem zG {i:Nat} {rest:List Nat} {o:Oper} {a:Act} {w:World}(ho:l[i]?=some o)(hw:Region.wanted o (yielded l.toArray a.tmps)=false)
  (hS:S w) (h:zdw P l Q S rest (a.put o.dst undef) w):zdw P l Q S (i :: rest) a w:=by
 simp only [zdw,ho]
 split
 ·exact⟨undef,.inr ⟨hw,rfl⟩,hS,h⟩
 ·unfold wpOp
  simp only [List.getElem?_toArray,ho,hw,Bool.false_eq_true,if_false]
  exact⟨hS,h⟩
theorem zT {i:Nat} {rest:List Nat} {o:Oper} {a:Act} {w:World}(ho:l[i]?=some o)(hq:zbC o.op=false)(hw:Region.wanted o (yielded l.toArray a.tmps)=true)
  (h:∀ K:Act→World→Prop,Shut (∀ a w,S w→(S w→zdw P l Q S rest a w)→K a w)→o.wp P a w K Q):zdw P l Q S (i :: rest) a w:=by
 simp only [zdw,ho,hq]
 unfold wpOp
 simp only [List.getElem?_toArray,ho,hw,if_true]
 exact .inl (h _ fun a w hS hW=>⟨hS,hW hS⟩)
end
theorem sQ {A B:Prop}(h:B) (k:Bx B→A:=by
 intro h0
 repeat (first|(refine zG rfl rfl (by assumption) ?_;simp only [Act.put,List.setIfInBounds_toArray,List.set_cons_zero,List.set_cons_succ])|(refine zC (v:=?_) rfl rfl rfl (fun X hX=>?_) (by assumption) ?_;rotate_left;(focus (go_simp<;>with_reducible rfl));simp only [Act.put,List.setIfInBounds_toArray,List.set_cons_zero,List.set_cons_succ]))
 exact h0.out):A:=k ⟨h⟩
theorem sR {P:Program} {l:List Oper} {Q:Exit→Act→World→Prop} {id:Nat} {a:Act} {w:World} (S:World→Prop) (ord:List Nat)(h:S w.drew→zdw P l Q S ord a w.drew)(hm:P.follows .mixedOrders=true:=by kernel_rfl)(hlen:ord.length=l.length:=by rfl)(hs:Region.noSelect l.toArray=true:=by kernel_rfl)(hok:okOrd l ord (Array.replicate l.length false)=true:=by kernel_rfl)
  (hQ:∀ (c:List PanicEntry) (a:Act) (d:Tmp) (v:Value) (w:World),Q (.panic c) (a.put (some d) v) w→Q (.panic c) a w:=by exact fun _ _ _ _ _ h=>h) (hS:S w.drew:=by first|assumption|exact (Ext.refl _).drew|(refine Ext.drew ?_;assumption)):(Code.region id l.toArray true).wp P Q a w:=
 zU S ord hm hlen hs hok hQ hS h
set_option maxHeartbeats 400000
structure Edg where
 fr:Int
 le:Int
 ta:Int
deriving DecidableEq
structure Sys where
 al:Int
 st:Int
 edges:List Edg
def zp:List Edg→List Value
 |[]=>[]
 |e :: r=>.int .i64 e.fr :: .int .i64 e.le :: .int .i64 e.ta :: zp r
theorem zau (l:List Edg):(zp l).length=l.length*3:=by
 induction l with
 |nil=>rfl
 |cons e r ih=>simp only [zp,List.length_cons,ih];omega
theorem zbJ (l m:List Edg):zp (l++m)=zp l++zp m:=by
 induction l with
 |nil=>rfl
 |cons e r ih=>simp [zp,ih]
theorem zbP {l:List Edg} {k:Nat} {e:Edg}(h:l[k]?=some e):(zp l)[k*3]?=some (.int .i64 e.fr)∧(zp l)[k*3+1]?=some (.int .i64 e.le)∧(zp l)[k*3+2]?=some (.int .i64 e.ta):=by
 induction l generalizing k with
 |nil=>simp at h
 |cons a r ih =>
  cases k with
  |zero=>simp at h;subst h;exact⟨rfl,rfl,rfl⟩
  |succ k =>
   have:=ih (k:=k) (by simpa using h)
   have e1:(k+1)*3=k*3+1+1+1:=by omega
   refine⟨?_,?_,?_⟩<;>rw [e1]<;>simp only [zp,List.getElem?_cons_succ]
   ·exact this.1
   ·exact this.2.1
   ·exact this.2.2
theorem zcq {w:World} {ad:Addr} {v:Value}(h:w.cell? (ad.add 0)=some v):ad=⟨ad.block,ad.off,none⟩:=by
 rw [addr_zero] at h
 obtain⟨b,o,s⟩:=ad
 have hs:s=none:=World.cell?_spot h
 subst hs
 rfl
theorem Reads.edge {w:World} {lo hi n k:Nat} {A:Option Addr} {l:List Edg}(h:Reads w lo hi 3 A n (zp l))(hk:k<n) :
  ∃ b o e,A=some ⟨b,o,none⟩∧lo≤b∧b<hi∧Hid (l[k]?=some e)∧w.cell? ⟨b,o+k*3,none⟩=some (.int .i64 e.fr)∧w.cell? ⟨b,o+k*3+1,none⟩=some (.int .i64 e.le)∧w.cell? ⟨b,o+k*3+2,none⟩=some (.int .i64 e.ta):=by
 obtain⟨ad,eA,hl,hb,hc⟩:=h.at_ hk
 have hn:l.length=n:=by have:=h.length;rw [zau] at this;omega
 have hx:l[k]?=some l[k]:=List.getElem?_eq_getElem (by omega)
 have hg:=zbP hx
 have h0:=hc _ _ hg.1
 have h1:=hc _ _ hg.2.1
 have h2:=hc _ _ hg.2.2
 have hz:=zbP (k:=0) (List.getElem?_eq_getElem (l:=l) (by omega))
 rw [Nat.zero_mul] at hz
 have hs:=zcq (hc _ _ hz.1)
 rw [hs] at h0 h1 h2
 rw [zO] at h0 h1 h2
 exact⟨ad.block,ad.off,l[k],by rw [eA,hs],hl,hb,hx,h0,by rw [Nat.add_assoc];exact h1,by rw [Nat.add_assoc];exact h2⟩
theorem Reads.edge2 {w:World} {lo hi n j b o:Nat} {l:List Edg} {e:Edg}(h:Reads w lo hi 3 (some ⟨b,o,none⟩) n (zp l))(he:l[j]?=some e) :
  w.cell? ⟨b,o+j*3,none⟩=some (.int .i64 e.fr)∧w.cell? ⟨b,o+j*3+1,none⟩=some (.int .i64 e.le)∧w.cell? ⟨b,o+j*3+2,none⟩=some (.int .i64 e.ta):=by
 have hj:j<l.length:=(List.getElem?_eq_some_iff.1 he).1
 have hn:l.length=n:=by have:=h.length;rw [zau] at this;omega
 obtain⟨ad,eA,_,_,hc⟩:=h.at_ (k:=j) (by omega)
 injection eA with eA
 subst eA
 have hg:=zbP he
 have h0:=hc _ _ hg.1
 have h1:=hc _ _ hg.2.1
 have h2:=hc _ _ hg.2.2
 rw [zO] at h0 h1 h2
 exact⟨h0,by rw [Nat.add_assoc];exact h1,by rw [Nat.add_assoc];exact h2⟩
def zQ (w:World) (lo hi:Nat) (A:Option Addr) (n:Nat) (s:Sys):Prop:=n=s.edges.length∧Reads w lo hi 3 A n (zp s.edges)
section
variable {w w':World} {lo hi n:Nat} {A:Option Addr} {s:Sys}
theorem zQ.ext (h:zQ w lo hi A n s)(hb:Ext w w'):zQ w' lo hi A n s:=⟨h.1,h.2.ext hb⟩
theorem zQ.frm {S:Nat→Prop}(h:zQ w lo hi A n s)(hb:Frm S w w')(hS:∀ k,lo≤k→k<hi→¬ S k):zQ w' lo hi A n s:=⟨h.1,h.2.frm hb hS⟩
theorem zQ.more {lo' hi':Nat}(h:zQ w lo hi A n s)(hL:lo'≤lo)(hH:hi≤hi'):zQ w lo' hi' A n s:=⟨h.1,h.2.more hL hH⟩
end
theorem zaQ:(Tryz.prog.info? 126).map (fun i=>(i.zero,i.size,i.bytes))=some (some (.agg #[.int .i64 0,.int .i64 0,.int .i64 0]),3,24):=by kernel_rfl
def OwnE (w:World) (base:Nat) (A:Option Addr) (n c:Nat) (l:List Edg):Prop:=n=l.length∧w.ownsRow base 126 3 (.slice A n c) n (zp l)
theorem OwnE.ext {w w':World} {base:Nat} {A:Option Addr} {n c:Nat} {l:List Edg}(h:OwnE w base A n c l)(hb:Ext w w'):OwnE w' base A n c l:=⟨h.1,zf h.2 hb⟩
set_option maxHeartbeats 400000
def RetSys (w:World) (s:Sys) (e:Ending) (w':World):Prop:=
 ∃ A n c,e=.returned (.agg #[.int .i64 s.al,.int .i64 s.st,.slice A n c])∧OwnE w' w.heap.size A n c s.edges∧Ext w w'
instance:BEq Edg:=⟨fun a b=>decide (a.fr=b.fr)&&(decide (a.le=b.le)&&decide (a.ta=b.ta))⟩
theorem edg_beq (a b:Edg):(a==b)=(decide (a.fr=b.fr)&&(decide (a.le=b.le)&&decide (a.ta=b.ta))):=rfl
instance:LawfulBEq Edg where
 eq_of_beq {a b} h:=by
  rw [edg_beq] at h
  simp only [Bool.and_eq_true,decide_eq_true_eq] at h
  cases a;cases b;simp_all
 rfl {a}:=by rw [edg_beq];simp
set_option maxHeartbeats 1000000
def SLAt (w:World) (lo hi:Nat) (A:Option Addr) (n:Nat) (ss:List Sys):Prop:=
 n=ss.length∧∃ cells,Reads w lo hi 3 A n cells∧∀ (k:Nat) (s:Sys),ss[k]?=some s→∃ (B:Option Addr) (m c:Nat),cells[k*3]?=some (.int .i64 s.al)∧cells[k*3+1]?=some (.int .i64 s.st)∧cells[k*3+2]?=some (.slice B m c)∧zQ w lo hi B m s
section
variable {w w':World} {lo hi n k:Nat} {A:Option Addr} {ss:List Sys}
theorem SLAt.ext (h:SLAt w lo hi A n ss)(hb:Ext w w'):SLAt w' lo hi A n ss:=by
 obtain⟨e,cells,hr,hx⟩:=h
 refine⟨e,cells,hr.ext hb,fun k s hs=>?_⟩
 obtain⟨B,m,c,h0,h1,h2,h3⟩:=hx k s hs
 exact⟨B,m,c,h0,h1,h2,h3.ext hb⟩
theorem SLAt.len (h:SLAt w lo hi A n ss):n≤9223372036854775807:=by
 obtain⟨_,cells,hr,_⟩:=h
 exact hr.len
theorem zgt {xs:List Value} {u:Value}(h:Reads w lo hi 3 A n xs)(hn:0<n)(hu:xs[0]?=some u):∃ b o,A=some ⟨b,o,none⟩∧lo≤b∧b<hi∧∀ j v,xs[j]?=some v→w.cell? ⟨b,o+j,none⟩=some v:=by
 obtain⟨ad,e,hl,hb,hc⟩:=h.at_ hn
 have hs:=zcq (hc 0 u hu)
 refine⟨ad.block,ad.off,by rw [e,hs],hl,hb,fun j v hv=>?_⟩
 have:=hc j v hv
 rw [hs,zO] at this
 exact this
theorem SLAt.sys (h:SLAt w lo hi A n ss)(hk:k<n):∃ b o s B m c,A=some ⟨b,o,none⟩∧lo≤b∧b<hi∧Hid (ss[k]?=some s)∧w.cell? ⟨b,o+k*3,none⟩=some (.int .i64 s.al)∧w.cell? ⟨b,o+k*3+1,none⟩=some (.int .i64 s.st)∧w.cell? ⟨b,o+k*3+2,none⟩=some (.slice B m c)∧zQ w lo hi B m s:=by
 obtain⟨e,cells,hr,hx⟩:=h
 have h0:ss[0]?=some (ss[0]'(by omega)):=List.getElem?_eq_getElem _
 obtain⟨_,_,_,z0,_⟩:=hx 0 _ h0
 rw [Nat.zero_mul] at z0
 obtain⟨b,o,rfl,hl,hb,hc⟩:=zgt hr (by omega) z0
 have hs:ss[k]?=some (ss[k]'(by omega)):=List.getElem?_eq_getElem _
 obtain⟨B,m,c,h0,h1,h2,h3⟩:=hx k _ hs
 exact⟨b,o,_,B,m,c,rfl,hl,hb,hs,hc _ _ h0,by rw [Nat.add_assoc];exact hc _ _ h1,by rw [Nat.add_assoc];exact hc _ _ h2,h3⟩
theorem SLAt.sys2 {b o:Nat} {s:Sys}(h:SLAt w lo hi (some ⟨b,o,none⟩) n ss)(hs:ss[k]?=some s):∃ B m c,w.cell? ⟨b,o+k*3,none⟩=some (.int .i64 s.al)∧w.cell? ⟨b,o+k*3+1,none⟩=some (.int .i64 s.st)∧w.cell? ⟨b,o+k*3+2,none⟩=some (.slice B m c)∧zQ w lo hi B m s:=by
 have hk:k<n:=by rw [h.1];exact (List.getElem?_eq_some_iff.1 hs).1
 obtain⟨b',o',s',B,m,c,hA,_,_,hs',r⟩:=h.sys hk
 injection hA with hA
 injection hA with h1 h2
 subst h1;subst h2
 have:=hs'.out
 rw [hs] at this
 injection this with this
 subst this
 exact⟨B,m,c,r⟩
end
theorem info_sys:(Tryz.prog.info? 39).map (fun i=>(i.zero,i.size,i.bytes))=some (some (.agg #[.int .i64 0,.int .i64 0,.slice none 0 0]),3,40):=by kernel_rfl
end Go.Proofs.YtndhahednhnnbaaGreatDoor
namespace Go.Proofs.YtndhahednhnnbaaGreatDoor
open Go Go.ChangeShapes Go.WideShapes Go.ChangeAt Go.RowKit Go.Deep
set_option maxRecDepth 100000
theorem own_:ownKnob Tryz.prog.godebug=none:=by kernel_rfl
theorem laidOut_:laidOutB Tryz.prog=true:=by kernel_rfl
theorem and_t {a b:Bool}(h:a=true) (k:b=true):(a&&b)=true:=by rw [h,k];rfl
end Go.Proofs.YtndhahednhnnbaaGreatDoor
namespace Go.Proofs.YtndhahednhnnbaaGreatDoor
open Go Go.RowKit
set_option maxHeartbeats 1000000
def Tab (w:World):Prop:=∀ j,j<64→w.cell? ⟨1,j,none⟩=some (.int .u8 (Lib.deBruijn64tab.getD j 0))
theorem Tab.ext {w w':World}(h:Tab w)(hb:Ext w w'):Tab w':=fun j hj=>hb.cell_some (h j hj)
theorem tz64_core (x k idx:Nat) (w:World)(hx0:((x:Int)==0)=false)
  (key:IntKind.u64.wrap (bits BinOp.and IntKind.u64 (x:Int) (IntKind.u64.wrap (-(x:Int)))*285870213051353865) / 288230376151711744=(idx:Int))
  (hi:idx<64) (hk:k<64) (hcell:w.cell? ⟨1,idx,none⟩=some (.int .u8 k)) :
  Calls Tryz.prog 207 #[.int .u64 x] w fun e w'=>e=.returned (.int .i64 k)∧w=w':=by
 go_enter Tryz.func207,Tryz.ntmps207
 go_wp2_with (simp only [key])
 go_ret
 exact⟨rfl,rfl⟩
theorem tz64 (x:Nat)(hx:x<18446744073709551616)(hx0:x≠0) (w:World)(hT:Tab w) :
  Calls Tryz.prog 207 #[.int .u64 x] w fun e w'=>e=.returned (.int .i64 (Lib.ctz 64 x))∧w=w':=by
 obtain⟨hlow,hk⟩:=Lib.lowest_bit 64 x hx0 hx
 obtain⟨hi,htab⟩:=Lib.deBruijn64_at _ hk
 have hcell:=hT _ hi
 rw [htab] at hcell
 exact tz64_core x _ _ w (by simp;omega) (tz64_key x _ hx hx0 hlow) hi hk hcell
theorem tz (x:Nat)(hx:x<18446744073709551616)(hx0:x≠0) (w:World)(hT:Tab w) :
  Calls Tryz.prog 179 #[.int .u64 x] w fun e w'=>e=.returned (.int .i64 (Lib.ctz 64 x))∧w=w':=by
 go_enter Tryz.func179,Tryz.ntmps179
 go_wp2_with (go_at_call 207;refine (tz64 x hx hx0 w hT).mono ?_;rintro e w' ⟨rfl,rfl⟩)
 go_ret
 exact⟨rfl,rfl⟩
theorem tab_head {W : World} {rest : List (String × DataW Unit)} (h : laidMet Tryz.prog (("math/bits.deBruijn64tab", Rows.laid_math_bits_deBruijn64tab) :: rest) W) : Tab W := by
 have h1 : Lib.TabIs Tryz.prog W "math/bits.deBruijn64tab" .u8 (Lib.deBruijn64tab.map fun n : Nat => (n : Int)) :=
  Lib.tabIs_of_head (g:=1) (t:=236) (e:=5) (by kernel_rfl) (by kernel_rfl) Tryz.underlying236 Tryz.underlying5 (by kernel_rfl) (by kernel_rfl) h
 intro j hj
 have:=h1.cell (g:=1) (by kernel_rfl) j (by rw [List.length_map];exact hj)
 rw [this,List.getD_eq_getElem?_getD,List.getElem?_map,List.getD_eq_getElem?_getD]
 have hl:Lib.deBruijn64tab.length=64:=rfl
 rw [List.getElem?_eq_getElem (by omega)]
 rfl
theorem tab_two {W : World} {rest : List (String × DataW Unit)} (h : laidMet Tryz.prog (("math/bits.deBruijn32tab", Rows.laid_math_bits_deBruijn32tab) :: ("math/bits.deBruijn64tab", Rows.laid_math_bits_deBruijn64tab) :: rest) W) : Tab W := tab_head (laidMet.tail h)
def wval (w:List Nat):Nat:=w.foldl (fun v l=>v*7+(l+1)) 0
theorem zas (w:List Nat) (l:Nat):wval (w++[l])=wval w*7+(l+1):=by simp [wval]
theorem zev:wval []=0:=rfl
theorem zac {α:Type} (w:List α):w=[]∨∃ u l,w=u++[l]:=by
 rcases List.eq_nil_or_concat w with h|⟨u,l,h⟩
 ·exact Or.inl h
 ·exact Or.inr ⟨u,l,by simpa using h⟩
theorem wval_inj:∀ (n:Nat) (u v:List Nat),u.length≤n→(∀ l∈u,l<6)→(∀ l∈v,l<6)→wval u=wval v→u=v:=by
 intro n
 induction n with
 |zero =>
  intro u v hu _ _ h
  obtain rfl:u=[]:=List.eq_nil_of_length_eq_zero (by omega)
  rcases zac v with rfl|⟨v,m,rfl⟩
  ·rfl
  ·rw [zas,zev] at h;omega
 |succ n ih =>
  intro u v hu h1 h2 h
  rcases zac u with rfl|⟨u,l,rfl⟩
  ·rcases zac v with rfl|⟨v,m,rfl⟩
   ·rfl
   ·rw [zas,zev] at h;omega
  ·rcases zac v with rfl|⟨v,m,rfl⟩
   ·rw [zas,zev] at h;omega
   ·have hl:=h1 l (by simp)
    have hm:=h2 m (by simp)
    rw [zas,zas] at h
    have e1:l=m:=by omega
    have e2:wval u=wval v:=by omega
    simp only [List.length_append,List.length_singleton] at hu
    rw [e1,ih u v (by omega) (fun x hx=>h1 x (by simp [hx])) (fun x hx=>h2 x (by simp [hx])) e2]
inductive Goes (d:Nat→Nat→List Nat) (start:List Nat):List Nat→Nat→Prop where
 |nil {x:Nat} (h:x∈start):Goes d start [] x
 |snoc {w:List Nat} {l n x:Nat} (h:Goes d start w n) (hx:x∈d n l):Goes d start (w++[l]) x
theorem Goes.inv {d:Nat→Nat→List Nat} {start w:List Nat} {l x:Nat}(h:Goes d start (w++[l]) x):∃ n,Goes d start w n∧x∈d n l:=by
 generalize hv:w++[l]=v at h
 cases h with
 |nil _=>simp at hv
 |@snoc w' l' n _ h hx =>
  have:=List.append_inj' hv rfl
  obtain⟨rfl,h2⟩:=this
  simp at h2
  subst h2
  exact⟨n,h,hx⟩
theorem Goes.inv_nil {d:Nat→Nat→List Nat} {start:List Nat} {x:Nat}(h:Goes d start [] x):x∈start:=by
 generalize hv:([]:List Nat)=v at h
 cases h with
 |nil h=>exact h
 |snoc _ _=>simp at hv
def visN (st:List Bool × List Nat) (n:Nat):List Bool × List Nat:=if st.1.getD n true then st else (st.1.set n true,st.2++[n])
def vis (S:List Bool) (ns:List Nat):List Bool × List Nat:=ns.foldl visN (S,[])
theorem vis_snoc (S:List Bool) (ns:List Nat) (n:Nat):vis S (ns++[n])=visN (vis S ns) n:=by simp [vis]
theorem zfp (S:List Bool) (ns:List Nat)(hn:∀ n∈ns,n<S.length) :
  (vis S ns).1.length=S.length∧(∀ x,x<S.length→((vis S ns).1.getD x true=true↔S.getD x true=true∨x∈ns))∧(∀ x,x∈(vis S ns).2↔x∈ns∧S.getD x true=false):=by
 have key:∀ k,k≤ns.length→(vis S (ns.take k)).1.length=S.length∧(∀ x,x<S.length→((vis S (ns.take k)).1.getD x true=true↔S.getD x true=true∨x∈ns.take k))∧(∀ x,x∈(vis S (ns.take k)).2↔x∈ns.take k∧S.getD x true=false):=by
  intro k
  induction k with
  |zero=>intro _;exact⟨rfl,fun x _=>by simp [vis],fun x=>by simp [vis]⟩
  |succ k ih =>
   intro hk
   obtain⟨h1,h2,h3⟩:=ih (by omega)
   have hx:ns[k]?=some ns[k]:=List.getElem?_eq_getElem (by omega)
   have hnk:=hn ns[k] (List.getElem_mem _)
   rw [List.take_add_one,hx]
   simp only [Option.toList_some]
   generalize ns[k]=n at *
   rw [vis_snoc]
   generalize vis S (ns.take k)=st at *
   obtain⟨T,fr⟩:=st
   simp only at h1 h2 h3
   unfold visN
   simp only
   cases hT:T.getD n true
   ·have hTS:=h2 n hnk
    rw [hT] at hTS
    have hnS:S.getD n true=false:=by cases h:S.getD n true<;>simp_all
    have hnn:n∉ns.take k:=fun h=>by simp [h] at hTS
    refine⟨by simp [h1],fun x hx=>?_,fun x=>?_⟩
    ·simp only [Bool.false_eq_true,if_false,List.getD_eq_getElem?_getD,List.mem_append,List.mem_singleton]
     by_cases e:x=n
     ·subst e
      rw [List.getElem?_set_self (by omega)]
      simp
     ·rw [List.getElem?_set_ne (by omega)]
      have:=h2 x hx
      rw [List.getD_eq_getElem?_getD,List.getD_eq_getElem?_getD] at this
      simp only [e,or_false]
      exact this
    ·simp only [Bool.false_eq_true,if_false,List.mem_append,List.mem_singleton]
     constructor
     ·rintro (h|rfl)
      ·exact⟨Or.inl ((h3 x).1 h).1,((h3 x).1 h).2⟩
      ·exact⟨Or.inr rfl,hnS⟩
     ·rintro ⟨h|rfl,h'⟩
      ·exact Or.inl ((h3 x).2 ⟨h,h'⟩)
      ·exact Or.inr rfl
   ·refine⟨h1,fun x hx=>?_,fun x=>?_⟩
    ·simp only [if_true,List.mem_append,List.mem_singleton]
     rw [h2 x hx]
     have hTS:=(h2 n hnk).1 hT
     constructor
     ·rintro (h|h)
      ·exact Or.inl h
      ·exact Or.inr (Or.inl h)
     ·rintro (h|h|rfl)
      ·exact Or.inl h
      ·exact Or.inr h
      ·exact hTS
    ·simp only [if_true,List.mem_append,List.mem_singleton]
     rw [h3 x]
     have hTS:=(h2 n hnk).1 hT
     constructor
     ·rintro ⟨h,h'⟩;exact⟨Or.inl h,h'⟩
     ·rintro ⟨h|rfl,h'⟩
      ·exact⟨h,h'⟩
      ·rcases hTS with h|h
       ·rw [h] at h';cases h'
       ·exact⟨h,h'⟩
 have:=key ns.length (Nat.le_refl _)
 rwa [List.take_length] at this
structure Stp where
 parent:Int
 letter:Nat
 nodes:List Nat
structure Bfs (d:Nat→Nat→List Nat) (start:List Nat) (goal:Nat→Bool) (L:List Nat) (N:Nat) (S:List Bool) (st:List Stp) (ws:List (List Nat)) (i j:Nat):Prop where
 len:S.length=N
 wl:ws.length=st.length
 small:∀ (k:Nat) (p:Stp),st[k]?=some p→∀ x∈p.nodes,x<N
 some_:∀ (k:Nat) (p:Stp),st[k]?=some p→p.nodes≠[]
 word:∀ (k:Nat) (p:Stp),st[k]?=some p→(k=0∧p.parent = -1∧ws.getD k []=[])∨(∃ a b:Nat,p.parent=(a:Int)∧a<k∧(a<i∨a=i∧b<j)∧L[b]?=some p.letter∧ws.getD k []=ws.getD a []++[p.letter])
 goes:∀ (k:Nat) (p:Stp),st[k]?=some p→∀ x∈p.nodes,Goes d start (ws.getD k []) x
 incr:∀ a b:Nat,a<b→b<st.length→wval (ws.getD a [])<wval (ws.getD b [])
 seen:∀ x,x<N→(S.getD x true=true↔∃ (k:Nat) (p:Stp),st[k]?=some p∧x∈p.nodes)
 first:∀ x∈start,∃ (p:Stp),st[0]?=some p∧x∈p.nodes
 zero:∀ p,st[0]?=some p→ws.getD 0 []=[]
 proc:∀ (k:Nat) (p:Stp) (b l:Nat),st[k]?=some p→L[b]?=some l→(k<i∨k=i∧b<j)→∀ n∈p.nodes,∀ x∈d n l,∃ (k':Nat) (q:Stp),st[k']?=some q∧x∈q.nodes∧wval (ws.getD k' [])≤wval (ws.getD k []++[l])
 dull:∀ (k:Nat) (p:Stp),st[k]?=some p→∀ x∈p.nodes,goal x=false
section
variable {d:Nat→Nat→List Nat} {start:List Nat} {goal:Nat→Bool} {L:List Nat} {N:Nat} {S:List Bool} {st:List Stp} {ws:List (List Nat)} {i j:Nat}
def Rise (L:List Nat):Prop:=(∀ l∈L,l<6)∧∀ (a b x y:Nat),L[a]?=some x→L[b]?=some y→a<b→x<y
theorem Bfs.before (h:Bfs d start goal L N S st ws i j) {V:Nat}(hV:∀ (k:Nat) (p:Stp) (b l:Nat),st[k]?=some p→L[b]?=some l→wval (ws.getD k []++[l])<V→(k<i∨k=i∧b<j)) :
  ∀ (m:Nat) (v:List Nat),v.length≤m→(∀ l∈v,l∈L)→wval v<V→∀ x,Goes d start v x→∃ (k:Nat) (p:Stp),st[k]?=some p∧x∈p.nodes∧wval (ws.getD k [])≤wval v:=by
 intro m
 induction m with
 |zero =>
  intro v hv _ _ x hx
  obtain rfl:v=[]:=List.eq_nil_of_length_eq_zero (by omega)
  obtain⟨p,hp,hxp⟩:=h.first x hx.inv_nil
  exact⟨0,p,hp,hxp,by rw [h.zero p hp];exact Nat.le_refl _⟩
 |succ m ih =>
  intro v hv hl hlt x hx
  rcases zac v with rfl|⟨u,l,rfl⟩
  ·obtain⟨p,hp,hxp⟩:=h.first x hx.inv_nil
   exact⟨0,p,hp,hxp,by rw [h.zero p hp];exact Nat.le_refl _⟩
  ·obtain⟨n,hn,hxn⟩:=hx.inv
   simp only [List.length_append,List.length_singleton] at hv
   have hlL:=hl l (by simp)
   obtain⟨b,hb⟩:=List.getElem?_of_mem hlL
   rw [zas] at hlt
   obtain⟨k,p,hp,hnp,hk⟩:=ih u (by omega) (fun x hx=>hl x (by simp [hx])) (by omega) n hn
   have hlt2:wval (ws.getD k []++[l])<V:=by rw [zas];omega
   obtain⟨k',q,hq,hxq,hk'⟩:=h.proc k p b l hp hb (hV k p b l hp hb hlt2) n hnp x hxn
   exact⟨k',q,hq,hxq,by rw [zas] at hk' ⊢;omega⟩
theorem Bfs.none (h:Bfs d start goal L N S st ws i j)(hend:st.length≤i) {v:List Nat}(hv:∀ l∈v,l∈L) {x:Nat}(hx:Goes d start v x):goal x=false:=by
 by_cases hst:st=[]
 ·subst hst
  exfalso
  have:∀ (m:Nat) (v:List Nat),v.length≤m→∀ x,¬ Goes d start v x:=by
   intro m
   induction m with
   |zero =>
    intro v hv x hx
    obtain rfl:v=[]:=List.eq_nil_of_length_eq_zero (by omega)
    obtain⟨p,hp,_⟩:=h.first x hx.inv_nil
    simp at hp
   |succ m ih =>
    intro v hv x hx
    rcases zac v with rfl|⟨u,l,rfl⟩
    ·obtain⟨p,hp,_⟩:=h.first x hx.inv_nil
     simp at hp
    ·obtain⟨n,hn,_⟩:=hx.inv
     exact ih u (by simp at hv;omega) n hn
  exact this v.length v (Nat.le_refl _) x hx
 ·obtain⟨k,p,hp,hxp,_⟩:=h.before (V:=wval v+1) (fun k p b l hp hb _=>Or.inl (by have:=(List.getElem?_eq_some_iff.1 hp).1;omega)) v.length v (Nat.le_refl _) hv (by omega) x hx
  exact h.dull k p hp x hxp
theorem Bfs.ahead (h:Bfs d start goal L N S st ws i j)(hL:Rise L) {l:Nat}(hi:i<st.length)(hl:L[j]?=some l) {k:Nat}(hk:k<st.length):wval (ws.getD k [])<wval (ws.getD i []++[l]):=by
 rw [zas]
 rcases h.word k _ (List.getElem?_eq_getElem hk) with ⟨_,_,e⟩|⟨a,b,_,hak,hab,hb,e⟩
 ·rw [e,zev];omega
 ·rw [e,zas]
  have hbl:=hL.1 _ (List.mem_of_getElem? hb)
  rcases hab with h1|⟨rfl,h2⟩
  ·have:=h.incr a i h1 hi
   omega
  ·have:=hL.2 b j _ _ hb hl h2
   omega
theorem Bfs.taken (h:Bfs d start goal L N S st ws i j)(hL:Rise L) {l:Nat}(hi:i<st.length)(hl:L[j]?=some l) (k:Nat) (p:Stp) (b m:Nat)(hp:st[k]?=some p)(hb:L[b]?=some m)(hlt:wval (ws.getD k []++[m])<wval (ws.getD i []++[l])):k<i∨k=i∧b<j:=by
 rw [zas,zas] at hlt
 have hk:=(List.getElem?_eq_some_iff.1 hp).1
 have h1:=hL.1 _ (List.mem_of_getElem? hb)
 have h2:=hL.1 _ (List.mem_of_getElem? hl)
 rcases Nat.lt_trichotomy k i with h3|h3|h3
 ·exact Or.inl h3
 ·subst h3
  refine Or.inr ⟨rfl,?_⟩
  rcases Nat.lt_trichotomy b j with h4|h4|h4
  ·exact h4
  ·subst h4
   rw [hb] at hl
   have:=Option.some.inj hl
   omega
  ·have:=hL.2 j b _ _ hl hb h4
   omega
 ·have:=h.incr i k h3 hk
  omega
theorem Bfs.found (h:Bfs d start goal L N S st ws i j)(hL:Rise L) {l:Nat}(hi:i<st.length)(hl:L[j]?=some l) {v:List Nat}(hv:∀ x∈v,x∈L)(hlt:wval v<wval (ws.getD i []++[l])) {x:Nat}(hx:Goes d start v x):goal x=false:=by
 obtain⟨k,p,hp,hxp,_⟩:=h.before (fun k p b m hp hb hlt=>h.taken hL hi hl k p b m hp hb hlt) v.length v (Nat.le_refl _) hv hlt x hx
 exact h.dull k p hp x hxp
theorem Bfs.row (h:Bfs d start goal L N S st ws i j)(hj:L.length≤j):Bfs d start goal L N S st ws (i+1) 0:=
 { h with
  word:=fun k p hp=>by
   rcases h.word k p hp with h1|⟨a,b,h1,h2,h3,h4⟩
   ·exact Or.inl h1
   ·exact Or.inr ⟨a,b,h1,h2,by omega,h4⟩
  proc:=fun k p b l hp hb hk=>by
   have hbl:=(List.getElem?_eq_some_iff.1 hb).1
   exact h.proc k p b l hp hb (by omega) }
def addS (st:List Stp) (a:Int) (l:Nat) (fr:List Nat):List Stp:=if fr=[] then st else st++[⟨a,l,fr⟩]
def addW (ws:List (List Nat)) (w:List Nat) (fr:List Nat):List (List Nat):=if fr=[] then ws else ws++[w]
theorem zed {ws:List (List Nat)} {k:Nat} (w:List Nat)(hk:k<ws.length):(ws++[w]).getD k []=ws.getD k []:=by
 rw [List.getD_eq_getElem?_getD,List.getD_eq_getElem?_getD,List.getElem?_append_left hk]
theorem zfy {ws:List (List Nat)} (w:List Nat):(ws++[w]).getD ws.length []=w:=by
 rw [List.getD_eq_getElem?_getD,List.getElem?_append_right (Nat.le_refl _),Nat.sub_self]
 rfl
theorem Bfs.step (h:Bfs d start goal L N S st ws i j)(hL:Rise L) {l:Nat} {pi:Stp}(hi:st[i]?=some pi)(hl:L[j]?=some l) {rs:List Nat}(hrs:∀ x,x∈rs↔∃ n∈pi.nodes,x∈d n l)(hN:∀ x∈rs,x<N)(hg:∀ x∈(vis S rs).2,goal x=false) :
  Bfs d start goal L N (vis S rs).1 (addS st i l (vis S rs).2) (addW ws (ws.getD i []++[l]) (vis S rs).2) i (j+1):=by
 have hil:=(List.getElem?_eq_some_iff.1 hi).1
 obtain⟨v1,v2,v3⟩:=zfp S rs (fun n hn=>by rw [h.len];exact hN n hn)
 generalize (vis S rs).1=T at *
 generalize (vis S rs).2=fr at *
 have hahead:=fun k hk=>h.ahead hL hil hl (k:=k) hk
 by_cases hfr:fr=[]
 ·subst hfr
  rw [addS,if_pos rfl,addW,if_pos rfl]
  have hsub:∀ x∈rs,S.getD x true=true:=fun x hx=>by
   cases hS:S.getD x true
   ·have:=(v3 x).2 ⟨hx,hS⟩
    cases this
   ·rfl
  refine { h with len:=v1.trans h.len,word:=?_,seen:=?_,proc:=?_ }
  ·intro k p hp
   rcases h.word k p hp with h1|⟨a,b,h1,h2,h3,h4⟩
   ·exact Or.inl h1
   ·exact Or.inr ⟨a,b,h1,h2,by omega,h4⟩
  ·intro x hx
   rw [v2 x (by rw [h.len];exact hx)]
   constructor
   ·rintro (h1|h1)
    ·exact (h.seen x hx).1 h1
    ·exact (h.seen x hx).1 (hsub x h1)
   ·intro h1
    exact Or.inl ((h.seen x hx).2 h1)
  ·intro k p b m hp hb hk n hn x hx
   by_cases hkj:k=i∧b=j
   ·obtain⟨rfl,rfl⟩:=hkj
    rw [hi] at hp
    obtain rfl:=Option.some.inj hp
    rw [hl] at hb
    obtain rfl:=Option.some.inj hb
    have hxr:=(hrs x).2 ⟨n,hn,hx⟩
    obtain⟨k',q,hq,hxq⟩:=(h.seen x (hN x hxr)).1 (hsub x hxr)
    exact⟨k',q,hq,hxq,Nat.le_of_lt (hahead k' (List.getElem?_eq_some_iff.1 hq).1)⟩
   ·exact h.proc k p b m hp hb (by omega) n hn x hx
 ·rw [addS,if_neg hfr,addW,if_neg hfr]
  have hold:∀ {k:Nat} {p:Stp},(st++[(⟨i,l,fr⟩:Stp)])[k]?=some p→(k<st.length∧st[k]?=some p)∨(k=st.length∧p=⟨i,l,fr⟩):=by
   intro k p hp
   rcases Nat.lt_trichotomy k st.length with hk|hk|hk
   ·rw [List.getElem?_append_left hk] at hp
    exact Or.inl ⟨hk,hp⟩
   ·rw [List.getElem?_append_right (by omega),hk,Nat.sub_self] at hp
    exact Or.inr ⟨hk,(Option.some.inj hp).symm⟩
   ·rw [List.getElem?_eq_none (by simp;omega)] at hp
    cases hp
  have hkeep:∀ {k:Nat} {p:Stp},st[k]?=some p→(st++[(⟨i,l,fr⟩:Stp)])[k]?=some p:=fun {k p} hp=>by
   rw [List.getElem?_append_left (List.getElem?_eq_some_iff.1 hp).1];exact hp
  have hnew:(st++[(⟨i,l,fr⟩:Stp)])[st.length]?=some ⟨i,l,fr⟩:=by rw [List.getElem?_append_right (Nat.le_refl _),Nat.sub_self];rfl
  have hwl:=h.wl
  have hgl:∀ k,k<st.length→(ws++[ws.getD i []++[l]]).getD k []=ws.getD k []:=fun k hk=>zed _ (by omega)
  have hgn:(ws++[ws.getD i []++[l]]).getD st.length []=ws.getD i []++[l]:=by rw [← hwl];exact zfy _
  have hfrs:∀ x∈fr,x∈rs∧S.getD x true=false:=fun x hx=>(v3 x).1 hx
  refine⟨v1.trans h.len,by simp [hwl],?_,?_,?_,?_,?_,?_,?_,?_,?_,?_⟩
  ·intro k p hp x hx
   rcases hold hp with ⟨_,h1⟩|⟨_,rfl⟩
   ·exact h.small k p h1 x hx
   ·exact hN x (hfrs x hx).1
  ·intro k p hp
   rcases hold hp with ⟨_,h1⟩|⟨_,rfl⟩
   ·exact h.some_ k p h1
   ·exact hfr
  ·intro k p hp
   rcases hold hp with ⟨h0,h1⟩|⟨rfl,rfl⟩
   ·rcases h.word k p h1 with ⟨e0,e1,e2⟩|⟨a,b,e1,e2,e3,e4,e5⟩
    ·exact Or.inl ⟨e0,e1,by rw [hgl k h0];exact e2⟩
    ·exact Or.inr ⟨a,b,e1,e2,by omega,e4,by rw [hgl k h0,hgl a (by omega)];exact e5⟩
   ·exact Or.inr ⟨i,j,rfl,hil,Or.inr ⟨rfl,by omega⟩,hl,by rw [hgn,hgl i hil]⟩
  ·intro k p hp x hx
   rcases hold hp with ⟨h0,h1⟩|⟨rfl,rfl⟩
   ·rw [hgl k h0];exact h.goes k p h1 x hx
   ·rw [hgn]
    obtain⟨n,hn,hxn⟩:=(hrs x).1 (hfrs x hx).1
    exact .snoc (h.goes i pi hi n hn) hxn
  ·intro a b hab hb
   simp only [List.length_append,List.length_singleton] at hb
   by_cases hbl:b<st.length
   ·rw [hgl a (by omega),hgl b hbl];exact h.incr a b hab hbl
   ·obtain rfl:b=st.length:=by omega
    rw [hgl a hab,hgn];exact hahead a hab
  ·intro x hx
   rw [v2 x (by rw [h.len];exact hx)]
   constructor
   ·rintro (h1|h1)
    ·obtain⟨k,p,hp,hxp⟩:=(h.seen x hx).1 h1
     exact⟨k,p,hkeep hp,hxp⟩
    ·cases hS:S.getD x true
     ·exact⟨_,_,hnew,(v3 x).2 ⟨h1,hS⟩⟩
     ·obtain⟨k,p,hp,hxp⟩:=(h.seen x hx).1 hS
      exact⟨k,p,hkeep hp,hxp⟩
   ·rintro ⟨k,p,hp,hxp⟩
    rcases hold hp with ⟨_,h1⟩|⟨_,rfl⟩
    ·exact Or.inl ((h.seen x hx).2 ⟨k,p,h1,hxp⟩)
    ·exact Or.inr (hfrs x hxp).1
  ·intro x hx
   obtain⟨p,hp,hxp⟩:=h.first x hx
   exact⟨p,hkeep hp,hxp⟩
  ·intro p hp
   rcases hold hp with ⟨h0,h1⟩|⟨h0,_⟩
   ·rw [hgl 0 h0];exact h.zero p h1
   ·omega
  ·intro k p b m hp hb hk n hn x hx
   rcases hold hp with ⟨h0,h1⟩|⟨rfl,rfl⟩
   ·rw [hgl k h0]
    by_cases hkj:k=i∧b=j
    ·obtain⟨rfl,rfl⟩:=hkj
     rw [hi] at h1
     obtain rfl:=Option.some.inj h1
     rw [hl] at hb
     obtain rfl:=Option.some.inj hb
     have hxr:=(hrs x).2 ⟨n,hn,hx⟩
     cases hS:S.getD x true
     ·exact⟨_,_,hnew,(v3 x).2 ⟨hxr,hS⟩,by rw [hgn];exact Nat.le_refl _⟩
     ·obtain⟨k',q,hq,hxq⟩:=(h.seen x (hN x hxr)).1 hS
      have hk':=(List.getElem?_eq_some_iff.1 hq).1
      exact⟨k',q,hkeep hq,hxq,by rw [hgl k' hk'];exact Nat.le_of_lt (hahead k' hk')⟩
    ·obtain⟨k',q,hq,hxq,hle⟩:=h.proc k p b m h1 hb (by omega) n hn x hx
     have hk':=(List.getElem?_eq_some_iff.1 hq).1
     exact⟨k',q,hkeep hq,hxq,by rw [hgl k' hk'];exact hle⟩
   ·omega
  ·intro k p hp x hx
   rcases hold hp with ⟨_,h1⟩|⟨_,rfl⟩
   ·exact h.dull k p h1 x hx
   ·exact hg x hx
theorem Bfs.begin_ {d:Nat→Nat→List Nat} {start:List Nat} {goal:Nat→Bool} {L:List Nat} {N:Nat}(hN:∀ x∈start,x<N)(hg:∀ x∈(vis (List.replicate N false) start).2,goal x=false) :
  Bfs d start goal L N (vis (List.replicate N false) start).1 (addS [] (-1) 0 (vis (List.replicate N false) start).2) (addW [] [] (vis (List.replicate N false) start).2) 0 0:=by
 obtain⟨v1,v2,v3⟩:=zfp (List.replicate N false) start (fun n hn=>by simpa using hN n hn)
 have hf:∀ x,x<N→(List.replicate N false).getD x true=false:=fun x hx=>by simp [List.getD_eq_getElem?_getD,hx]
 generalize (vis (List.replicate N false) start).1=T at *
 generalize (vis (List.replicate N false) start).2=fr at *
 have hfr:∀ x,x∈fr↔x∈start:=fun x=>(v3 x).trans ⟨fun h=>h.1,fun h=>⟨h,hf x (hN x h)⟩⟩
 have hT:∀ x,x<N→(T.getD x true=true↔x∈start):=fun x hx=>by
  rw [v2 x (by simpa using hx),hf x hx]
  simp
 by_cases he:fr=[]
 ·subst he
  rw [addS,if_pos rfl,addW,if_pos rfl]
  have hs:∀ x,x∉start:=fun x hx=>by have:=(hfr x).2 hx;cases this
  refine⟨by simpa using v1,rfl,fun k p hp=>by simp at hp,fun k p hp=>by simp at hp,fun k p hp=>by simp at hp,fun k p hp=>by simp at hp,fun a b _ hb=>by simp at hb,fun x hx=>?_,fun x hx=>absurd hx (hs x),fun p hp=>by simp at hp,fun k p b l hp=>by simp at hp,fun k p hp=>by simp at hp⟩
  rw [hT x hx]
  exact⟨fun h=>absurd h (hs x),fun ⟨k,p,hp,_⟩=>by simp at hp⟩
 ·rw [addS,if_neg he,addW,if_neg he]
  have hold:∀ {k:Nat} {p:Stp},([]++[(⟨-1,0,fr⟩:Stp)])[k]?=some p→k=0∧p=⟨-1,0,fr⟩:=by
   intro k p hp
   cases k with
   |zero=>exact⟨rfl,by simpa using hp.symm⟩
   |succ k=>simp at hp
  refine⟨by simpa using v1,rfl,?_,?_,?_,?_,?_,?_,?_,?_,?_,?_⟩
  ·intro k p hp x hx
   obtain⟨rfl,rfl⟩:=hold hp
   exact hN x ((hfr x).1 hx)
  ·intro k p hp
   obtain⟨rfl,rfl⟩:=hold hp
   exact he
  ·intro k p hp
   obtain⟨rfl,rfl⟩:=hold hp
   exact Or.inl ⟨rfl,rfl,rfl⟩
  ·intro k p hp x hx
   obtain⟨rfl,rfl⟩:=hold hp
   exact .nil ((hfr x).1 hx)
  ·intro a b hab hb
   simp at hb;omega
  ·intro x hx
   rw [hT x hx]
   constructor
   ·intro h
    exact⟨0,_,rfl,(hfr x).2 h⟩
   ·rintro ⟨k,p,hp,hxp⟩
    obtain⟨rfl,rfl⟩:=hold hp
    exact (hfr x).1 hxp
  ·intro x hx
   exact⟨_,rfl,(hfr x).2 hx⟩
  ·intro p _
   rfl
  ·intro k p b l hp _ hk
   omega
  ·intro k p hp x hx
   obtain⟨rfl,rfl⟩:=hold hp
   exact hg x hx
end
end Go.Proofs.YtndhahednhnnbaaGreatDoor
namespace Go.Proofs.YtndhahednhnnbaaGreatDoor
theorem visN_cnt (st:List Bool × List Nat) (n:Nat):(visN st n).1.count true+st.2.length=st.1.count true+(visN st n).2.length:=by
 unfold visN
 cases h:st.1.getD n true
 ·have hn:n<st.1.length:=by
   rcases Nat.lt_or_ge n st.1.length with h1|h1
   ·exact h1
   ·rw [List.getD_eq_getElem?_getD,List.getElem?_eq_none h1] at h;cases h
  have hv:st.1[n]=false:=by rw [List.getD_eq_getElem?_getD,List.getElem?_eq_getElem hn] at h;exact h
  simp only [Bool.false_eq_true,if_false]
  rw [List.count_set hn,hv]
  simp
  omega
 ·simp
theorem foldl_cnt (ns:List Nat) (st:List Bool × List Nat):(ns.foldl visN st).1.count true+st.2.length=st.1.count true+(ns.foldl visN st).2.length:=by
 induction ns generalizing st with
 |nil=>rfl
 |cons n r ih =>
  have h1:=ih (visN st n)
  have h2:=visN_cnt st n
  rw [List.foldl_cons]
  omega
theorem vis_cnt (S:List Bool) (ns:List Nat):(vis S ns).1.count true=S.count true+(vis S ns).2.length:=by
 have:=foldl_cnt ns (S,[])
 simpa [vis] using this
def Cnt (S:List Bool) (st:List Stp):Prop:=(st.map fun p=>p.nodes.length).sum=S.count true
theorem Cnt.add {S:List Bool} {st:List Stp}(h:Cnt S st) (a:Int) (l:Nat) (ns:List Nat):Cnt (vis S ns).1 (addS st a l (vis S ns).2):=by
 unfold Cnt at h ⊢
 rw [vis_cnt,addS]
 by_cases he:(vis S ns).2=[]
 ·rw [if_pos he,he,h];rfl
 ·rw [if_neg he]
  simp [h]
theorem Cnt.nil (N:Nat):Cnt (List.replicate N false) []:=by
 unfold Cnt
 simp [List.count_replicate]
theorem sum_len {l:List Nat}(h:∀ x∈l,1≤x):l.length≤l.sum:=by
 induction l with
 |nil=>simp
 |cons x r ih =>
  have h1:=ih (fun y hy=>h y (by simp [hy]))
  have h2:=h x (by simp)
  simp
  omega
theorem sum_mem {l:List Nat} {x:Nat}(h:x∈l):x≤l.sum:=by
 induction l with
 |nil=>cases h
 |cons y r ih =>
  rcases List.mem_cons.1 h with rfl|h
  ·simp
  ·have:=ih h
   simp
   omega
theorem Cnt.steps {S:List Bool} {st:List Stp}(h:Cnt S st)(hs:∀ (k:Nat) (p:Stp),st[k]?=some p→p.nodes≠[]):st.length≤S.length:=by
 unfold Cnt at h
 have h1:(st.map fun p=>p.nodes.length).length≤(st.map fun p=>p.nodes.length).sum:=sum_len (fun x hx=>by
  obtain⟨p,hp,rfl⟩:=List.mem_map.1 hx
  obtain⟨k,hk⟩:=List.getElem?_of_mem hp
  have:=hs k p hk
  have:=List.length_pos_iff.2 this
  omega)
 rw [List.length_map,h] at h1
 exact Nat.le_trans h1 List.count_le_length
theorem Cnt.nodes {S:List Bool} {st:List Stp}(h:Cnt S st) {k:Nat} {p:Stp}(hp:st[k]?=some p):p.nodes.length≤S.length:=by
 unfold Cnt at h
 have h1:=sum_mem (List.mem_map.2 ⟨p,List.mem_of_getElem? hp,rfl⟩:p.nodes.length∈st.map fun p=>p.nodes.length)
 rw [h] at h1
 exact Nat.le_trans h1 List.count_le_length
def reach (d:Nat→Nat→List Nat) (l:Nat) (ns:List Nat):List Nat:=(ns.map fun n=>d n l).flatten
theorem zfD {d:Nat→Nat→List Nat} {l:Nat} {ns:List Nat} {x:Nat}:x∈reach d l ns↔∃ n∈ns,x∈d n l:=by
 unfold reach
 rw [List.mem_flatten]
 exact⟨fun ⟨ys,h1,h2⟩=>by obtain⟨n,hn,rfl⟩:=List.mem_map.1 h1;exact⟨n,hn,h2⟩,fun ⟨n,hn,h2⟩=>⟨_,List.mem_map.2 ⟨n,hn,rfl⟩,h2⟩⟩
theorem reach_snoc (d:Nat→Nat→List Nat) (l:Nat) (ns:List Nat) (n:Nat):reach d l (ns++[n])=reach d l ns++d n l:=by simp [reach]
theorem reach_take {d:Nat→Nat→List Nat} {l k n:Nat} {ns:List Nat}(h:ns[k]?=some n):reach d l (ns.take (k+1))=reach d l (ns.take k)++d n l:=by
 rw [List.take_add_one,h]
 exact reach_snoc _ _ _ _
theorem reach_len {d:Nat→Nat→List Nat} {l D:Nat} {ns:List Nat}(h:∀ n∈ns,(d n l).length≤D):(reach d l ns).length≤ns.length*D:=by
 induction ns with
 |nil=>simp [reach]
 |cons n r ih =>
  have h1:=ih (fun x hx=>h x (by simp [hx]))
  have h2:=h n (by simp)
  simp only [reach,List.map_cons,List.flatten_cons,List.length_append,List.length_cons,Nat.add_mul,Nat.one_mul] at h1 ⊢
  omega
def Found (d:Nat→Nat→List Nat) (start:List Nat) (goal:Nat→Bool) (L:List Nat) (v:List Nat):Prop:=
 (∀ l∈v,l∈L)∧(∃ x,Goes d start v x∧goal x=true)∧∀ u,(∀ l∈u,l∈L)→wval u<wval v→∀ x,Goes d start u x→goal x=false
def Lost (d:Nat→Nat→List Nat) (start:List Nat) (goal:Nat→Bool) (L:List Nat):Prop:=∀ v,(∀ l∈v,l∈L)→∀ x,Goes d start v x→goal x=false
end Go.Proofs.YtndhahednhnnbaaGreatDoor
namespace Go.Proofs.YtndhahednhnnbaaGreatDoor
open Go Go.RowKit
def E (es:List Edg) (i l k:Nat):Prop:=∃ e∈es,e.fr=i∧e.le=l∧e.ta=k
def rel (R:List Nat) (i j:Nat):Prop:=i<R.length∧(R.getD i 0).testBit j=true
def succ (es:List Edg) (i l:Int):Nat:=es.foldl (fun m e=>if e.fr=i∧e.le=l then m|||2 ^ e.ta.toNat else m) 0
theorem succ_snoc (es:List Edg) (e:Edg) (i l:Int):succ (es++[e]) i l=if e.fr=i∧e.le=l then succ es i l|||2 ^ e.ta.toNat else succ es i l:=by
 simp [succ]
set_option maxHeartbeats 1000000
theorem and_pred (k m:Nat):(2 ^ k*(2*m+1))&&&(2 ^ k*(2*m+1) - 1)=2 ^ k*(2*m):=by
 have hp:=Nat.two_pow_pos k
 have e:2 ^ k*(2*m+1) - 1=2 ^ k*(2*m)+(2 ^ k - 1):=by rw [Nat.mul_add,Nat.mul_one];omega
 rw [e]
 apply Nat.eq_of_testBit_eq
 intro i
 have e0:∀ q,(2 ^ k*q).testBit i=if i<k then false else q.testBit (i - k):=fun q=>by
  have:=Nat.testBit_two_pow_mul_add q (b:=0) (i:=k) hp i
  rw [Nat.add_zero] at this
  rw [this,Nat.zero_testBit]
 rw [Nat.testBit_and,e0,Nat.testBit_two_pow_mul_add _ (by omega),e0]
 by_cases hi:i<k
 ·simp [hi]
 ·simp only [hi,if_false]
  cases hd:i - k with
  |zero=>simp [Nat.testBit_zero]
  |succ d=>rw [Nat.testBit_succ,Nat.testBit_succ,show (2*m+1) / 2=m by omega,show (2*m) / 2=m by omega];simp
theorem lowest {x:Nat}(h0:x≠0)(hs:Sm x):∃ k,Lib.ctz 64 x=k∧k<32∧x.testBit k=true∧(∀ i,i<k→x.testBit i=false)∧x&&&(x - 1)=x - 2 ^ k∧2 ^ k≤x:=by
 have hx:=hs.lt
 obtain⟨m,hm,hk⟩:=Lib.ctzFrom_spec 64 x (by omega) (by omega)
 have e:Lib.ctz 64 x=Lib.ctzFrom 64 x:=by simp [Lib.ctz,h0]
 generalize Lib.ctzFrom 64 x=k at *
 have hp:=Nat.two_pow_pos k
 have hle:2 ^ k≤x:=by rw [hm];exact Nat.le_mul_of_pos_right _ (by omega)
 have e0:∀ q i,(2 ^ k*q).testBit i=if i<k then false else q.testBit (i - k):=fun q i=>by
  have:=Nat.testBit_two_pow_mul_add q (b:=0) (i:=k) hp i
  rw [Nat.add_zero] at this
  rw [this,Nat.zero_testBit]
 refine⟨k,e,?_,?_,fun i hi=>?_,?_,hle⟩
 ·apply Nat.lt_of_not_le
  intro h32
  have:=Nat.pow_le_pow_right (n:=2) (by omega) h32
  omega
 ·rw [hm,e0];simp
 ·rw [hm,e0];simp [hi]
 ·rw [hm,and_pred,Nat.mul_add,Nat.mul_one,Nat.add_sub_cancel]
theorem zfS {x j:Nat}(h:x.testBit j=true)(hl:∀ i,i<j→x.testBit i=false) (k:Nat):(x - 2 ^ j).testBit k=(x.testBit k&&!decide (k=j)):=by
 have hodd:x / 2 ^ j % 2=1:=by
  have:=h
  rw [Nat.testBit_eq_decide_div_mod_eq] at this
  simpa using this
 have hp:=Nat.two_pow_pos j
 have hr:x % 2 ^ j=0:=by
  apply Nat.eq_of_testBit_eq
  intro i
  rw [Nat.testBit_mod_two_pow,Nat.zero_testBit]
  by_cases hi:i<j
  ·simp [hi,hl i hi]
  ·simp [hi]
 have hdm:=Nat.div_add_mod x (2 ^ j)
 rw [hr,Nat.add_zero] at hdm
 generalize x / 2 ^ j=q at *
 have e0:∀ q i,(2 ^ j*q).testBit i=if i<j then false else q.testBit (i - j):=fun q i=>by
  have:=Nat.testBit_two_pow_mul_add q (b:=0) (i:=j) hp i
  rw [Nat.add_zero] at this
  rw [this,Nat.zero_testBit]
 have e:x - 2 ^ j=2 ^ j*(q - 1):=by rw [← hdm,Nat.mul_sub,Nat.mul_one]
 rw [e,← hdm,e0,e0]
 by_cases hk:k<j
 ·simp [hk]
 ·simp only [hk,if_false]
  obtain⟨d,rfl⟩:∃ d,k=j+d:=⟨k - j,by omega⟩
  rw [Nat.add_sub_cancel_left]
  cases d with
  |zero=>simp [Nat.testBit_zero];omega
  |succ d =>
   rw [Nat.testBit_succ,Nat.testBit_succ,show (q - 1) / 2=q / 2 by omega]
   simp
theorem zfC {x k:Nat}(h:x.testBit k=true)(hl:∀ i,i<k→x.testBit i=false):∀ n,(n≤k→letters x n=[]∧letters (x - 2 ^ k) n=[])∧(k<n→letters x n=k :: letters (x - 2 ^ k) n)
 |0=>⟨fun _=>⟨rfl,rfl⟩,fun h=>by omega⟩
 |n+1=>by
  have ih:=zfC h hl n
  have hb:=zfS h hl n
  rw [zaR,zaR,hb]
  refine⟨fun hn=>?_,fun hn=>?_⟩
  ·obtain⟨e1,e2⟩:=ih.1 (by omega)
   rw [e1,e2,hl n (by omega)]
   simp
  ·rcases Nat.lt_or_ge k n with h1|h1
   ·rw [ih.2 h1]
    have:n≠k:=by omega
    simp [this]
   ·obtain⟨e1,e2⟩:=ih.1 h1
    obtain rfl:n=k:=by omega
    rw [e1,e2,h]
    simp
theorem letters_step {x:Nat}(h0:x≠0)(hs:Sm x):letters x 32=Lib.ctz 64 x :: letters (x&&&(x - 1)) 32∧x&&&(x - 1)<x∧Lib.ctz 64 x<32:=by
 obtain⟨k,e,hk,hb,hl,ha,hle⟩:=lowest h0 hs
 have hp:=Nat.two_pow_pos k
 rw [e,ha]
 exact⟨(zfC hb hl 32).2 hk,by omega,hk⟩
theorem impl_members (a:Nat)(hs:Sm a) (w:World)(hT:Tab w) :
  Calls Tryz.prog 126 #[.int .i64 a] w (zbr w (letters a 32)):=by
 have hlen:=zy a 32
 go_enter Tryz.func126,Tryz.ntmps126
 go_wp2
 go_loopw [0,3,4] (fun s v _ wr=>∃ x:Nat,s=.int .i64 x∧Sm x∧∃ o:List Nat,Hid (letters a 32=o++letters x 32)∧wr.ownsRow w.heap.size 3 1 v o.length (nats o)∧Ext w wr)
  (fun s _ _ _=>(intOf s).toNat)
 case atStart=>exact⟨a,rfl,hs,[],rfl,World.ownsRow_nil _ _ _ _,Ext.refl _⟩
 case round =>
  obtain⟨x,rfl,hx,o,ho,hown,hext⟩:=hrel
  have hx':=hx.lt
  have hol:o.length+(letters x 32).length≤32:=by have:=ho.out;rw [this,List.length_append] at hlen;exact hlen
  by_cases h0:x=0
  ·subst h0
   obtain⟨A,c,rfl⟩:=zh hown
   go_wp2
   go_ret
   have hl0:=ho.out
   rw [show letters 0 32=[] by decide,List.append_nil] at hl0
   exact⟨A,c,by rw [hl0];rfl,by rw [hl0];exact hown,hext⟩
  ·obtain⟨hl,hlt,hc⟩:=letters_step h0 hx
   have Hl:=hide hl
   have hne:((x:Int) != 0)=true:=by simp;omega
   have hT':=hT.ext hext
   have hb:=hide (zbt (a:=x) (b:=x - 1) hx (by unfold Sm;omega))
   have hol':o.length<32:=by rw [hl] at hol;simp at hol;omega
   clear hl hlen hol
   have hi:=hide (show ((x:Int) - 1)=((x - 1:Nat):Int) by omega)
   go_wp2_with (first
    |(go_at_call 179;refine (tz x (by omega) h0 _ hT').mono ?_;rintro e w' ⟨rfl,rfl⟩)
    |(at_builtin;refine zP w wr rfl (.tmp 10) (.tmp 14) _ rfl 3 _ 1 8 Tryz.underlying71 zY rfl (by decide) u3 _ _ _ _ rfl rfl hext hown rfl (zaZ _) (by unfold maxLen;omega) (by omega) ?_;intro v' w1 hext1 hown1 hg1 hat1))
   go_roundw
   case rel=>exact⟨x&&&(x - 1),by rw [hi.out,hb.out],Nat.lt_of_le_of_lt Nat.and_le_left hx,o++[Lib.ctz 64 x],by have:=ho.out;unfold Hid;rw [this,Hl.out];simp,by simpa [nats] using hown1,by assumption⟩
   case measure =>
    have:=hb.out
    rw [← hi.out] at this
    simp [intOf]
    omega
theorem foldl_bit (es:List Edg) (p:Edg→Prop) [DecidablePred p] (m k:Nat):(es.foldl (fun m e=>if p e then m|||2 ^ e.ta.toNat else m) m).testBit k=true↔m.testBit k=true∨∃ e∈es,p e∧e.ta.toNat=k:=by
 induction es generalizing m with
 |nil=>simp
 |cons e r ih =>
  rw [List.foldl_cons,ih]
  by_cases hp:p e
  ·rw [if_pos hp,Nat.testBit_or,Nat.testBit_two_pow]
   simp only [Bool.or_eq_true,decide_eq_true_eq,List.mem_cons]
   constructor
   ·rintro ((h|h)|⟨e',h1,h2⟩)
    ·exact Or.inl h
    ·exact Or.inr ⟨e,Or.inl rfl,hp,h⟩
    ·exact Or.inr ⟨e',Or.inr h1,h2⟩
   ·rintro (h|⟨e',h1|h1,h2⟩)
    ·exact Or.inl (Or.inl h)
    ·subst h1;exact Or.inl (Or.inr h2.2)
    ·exact Or.inr ⟨e',h1,h2⟩
  ·rw [if_neg hp]
   constructor
   ·rintro (h|⟨e',h1,h2⟩)
    ·exact Or.inl h
    ·exact Or.inr ⟨e',List.mem_cons_of_mem _ h1,h2⟩
   ·rintro (h|⟨e',h1,h2⟩)
    ·exact Or.inl h
    ·rcases List.mem_cons.1 h1 with h1|h1
     ·subst h1;exact absurd h2.1 hp
     ·exact Or.inr ⟨e',h1,h2⟩
theorem zds (es:List Edg) (i l:Int) (k:Nat):(succ es i l).testBit k=true↔∃ e∈es,(e.fr=i∧e.le=l)∧e.ta.toNat=k:=by
 have:=foldl_bit es (fun e=>e.fr=i∧e.le=l) 0 k
 simpa [succ] using this
def Few (n:Nat) (es:List Edg):Prop:=∀ e∈es,(0≤e.fr∧e.fr<n)∧(0≤e.le∧e.le<6)∧(0≤e.ta∧e.ta<n)
theorem succ_lt {n:Nat} {es:List Edg}(h:Few n es) (i l:Int):succ es i l<2 ^ n:=by
 apply Nat.lt_pow_two_of_testBit
 intro k hk
 rw [Bool.eq_false_iff]
 intro hb
 obtain⟨e,he,_,h3⟩:=(zds es i l k).1 hb
 have:=h e he
 omega
theorem succ_sm {n:Nat} {es:List Edg}(h:Few n es)(hn:n≤16) (i l:Int):Sm (succ es i l):=
 Nat.lt_of_lt_of_le (succ_lt h i l) (by rw [show (4294967296:Nat)=2 ^ 32 from rfl];exact Nat.pow_le_pow_right (by omega) (by omega))
theorem zcJ {a n k:Nat}:k∈letters a n↔k<n∧a.testBit k=true:=by simp [letters]
def cho (s:Sys) (i l:Nat):List Nat:=if s.al.toNat.testBit l then letters (succ s.edges i l) 32 else [i]
def nx:List Sys→Nat→Nat→List Nat × Nat × Nat
 |[],m,_=>([0],1,m)
 |s :: r,m,l=>((cho s ((nx r m l).2.2 % s.st.toNat) l).flatMap (fun q=>(nx r m l).1.map fun x=>q*(nx r m l).2.1+x),(nx r m l).2.1*s.st.toNat,(nx r m l).2.2 / s.st.toNat)
def Sml (s:Sys):Prop:=1≤s.st∧s.st≤16∧Few s.st.toNat s.edges∧0≤s.al∧s.al≤63
theorem zeh (a k:Nat):(letters a k).Nodup:=List.Pairwise.filter _ List.nodup_range
theorem zD {a k x:Nat}:x∈letters a k↔x<k∧a.testBit x=true:=by simp [letters,List.mem_filter]
theorem cho_lt {s:Sys}(h:Sml s) {i l:Nat}(hi:i<s.st.toNat):∀ q∈cho s i l,q<s.st.toNat:=by
 intro q hq
 unfold cho at hq
 split at hq
 ·have hb:=(zD.1 hq).2
  rcases Nat.lt_or_ge q s.st.toNat with h1|h1
  ·exact h1
  ·have:=Nat.testBit_lt_two_pow (Nat.lt_of_lt_of_le (succ_lt h.2.2.1 i l) (Nat.pow_le_pow_right (by omega) h1))
   rw [hb] at this;cases this
 ·rw [List.mem_singleton.1 hq];exact hi
theorem cho_nodup (s:Sys) (i l:Nat):(cho s i l).Nodup:=by
 unfold cho
 split
 ·exact zeh _ _
 ·simp
theorem zfE {l:List Nat}(h:l.Nodup) {p:Nat}(hl:∀ x∈l,x<p):l.length≤p:=by
 have h1:l ⊆ List.range p:=fun x hx=>List.mem_range.2 (hl x hx)
 have:=List.Nodup.length_le_of_subset h h1
 simpa using this
theorem cho_len {s:Sys}(h:Sml s) {i l:Nat}(hi:i<s.st.toNat):(cho s i l).length≤s.st.toNat:=zfE (cho_nodup s i l) (cho_lt h hi)
theorem flat_nodup {l R:List Nat} {W:Nat}(hl:l.Nodup)(hR:R.Nodup)(hW:∀ x∈R,x<W):(l.flatMap fun q=>R.map fun x=>q*W+x).Nodup:=by
 induction l with
 |nil=>simp
 |cons a r ih =>
  rw [List.flatMap_cons]
  rw [List.nodup_cons] at hl
  refine List.nodup_append.2 ⟨?_,ih hl.2,?_⟩
  ·exact List.Pairwise.map _ (fun a b h=>by simpa using h) hR
  ·intro x hx y hy hxy
   subst hxy
   obtain⟨u,hu,rfl⟩:=List.mem_map.1 hx
   obtain⟨b,hb,hy⟩:=List.mem_flatMap.1 hy
   obtain⟨v,hv,he⟩:=List.mem_map.1 hy
   have h1:=hW u hu
   have h2:=hW v hv
   have:a=b:=by
    have e1:(a*W+u) / W=a:=by rw [Nat.add_comm,Nat.add_mul_div_right _ _ (by omega),Nat.div_eq_of_lt h1,Nat.zero_add]
    have e2:(b*W+v) / W=b:=by rw [Nat.add_comm,Nat.add_mul_div_right _ _ (by omega),Nat.div_eq_of_lt h2,Nat.zero_add]
    rw [← e1,← e2,he]
   subst this
   exact hl.1 hb
theorem nx_facts {ss:List Sys}(h:∀ s∈ss,Sml s) (m l:Nat):1≤(nx ss m l).2.1∧(nx ss m l).2.1≤16 ^ ss.length∧(∀ x∈(nx ss m l).1,x<(nx ss m l).2.1)∧(nx ss m l).1.Nodup∧(nx ss m l).2.2≤m:=by
 induction ss with
 |nil=>simp [nx]
 |cons s r ih =>
  obtain⟨h1,h2,h3,h4,h5⟩:=ih fun s hs=>h s (List.mem_cons_of_mem _ hs)
  have hs:=h s List.mem_cons_self
  have hst:1≤s.st.toNat∧s.st.toNat≤16:=by have:=hs.1;have:=hs.2.1;omega
  refine⟨Nat.mul_pos h1 hst.1,?_,fun x hx=>?_,flat_nodup (cho_nodup _ _ _) h4 h3,Nat.le_trans (Nat.div_le_self _ _) h5⟩
  ·rw [nx,List.length_cons,Nat.pow_succ]
   exact Nat.mul_le_mul h2 hst.2
  ·rw [nx] at hx ⊢
   obtain⟨q,hq,hx⟩:=List.mem_flatMap.1 hx
   obtain⟨y,hy,rfl⟩:=List.mem_map.1 hx
   have hq':=cho_lt hs (Nat.mod_lt _ hst.1) q hq
   have hy':=h3 y hy
   calc q*(nx r m l).2.1+y<q*(nx r m l).2.1+(nx r m l).2.1:=by omega
    _=(q+1)*(nx r m l).2.1:=by rw [Nat.add_mul,Nat.one_mul]
    _≤s.st.toNat*(nx r m l).2.1:=Nat.mul_le_mul_right _ hq'
    _=(nx r m l).2.1*s.st.toNat:=Nat.mul_comm _ _
theorem nx_len {ss:List Sys}(h:∀ s∈ss,Sml s) (m l:Nat):(nx ss m l).1.length≤16 ^ ss.length:=by
 obtain⟨h1,h2,h3,h4,_⟩:=nx_facts h m l
 exact Nat.le_trans (zfE h4 h3) h2
set_option maxHeartbeats 400000
theorem zS (a:Nat)(hs:Sm a) (w:World) :
  Calls Tryz.prog 98 #[.int .i64 a] w (zbr w (letters a 6)):=by
 go_enter Tryz.func98,Tryz.ntmps98
 go_wp2
 go_loopw [3,4] (fun v i wr=>∃ k:Nat,k≤6∧i=.int .i64 k∧wr.ownsRow w.heap.size 3 1 v (letters a k).length (nats (letters a k))∧Ext w wr)
  (fun _ i _=>6 - (intOf i).toNat)
 case atStart=>exact⟨0,Nat.zero_le _,rfl,World.ownsRow_lit w #[] 0 (Nat.le_refl _) (by unfold maxLen;omega) rfl,(Ext.refl _).alloc _⟩
 case round =>
  obtain⟨k,hk,rfl,hown,hext⟩:=hrel
  have hl:=zy a k
  by_cases hlt:k<6
  ·cases hb:a.testBit k
   all_goals
    have Hb:=hide hb
    have hls:=zaR a k
    rw [hb] at hls
    have Hls:=hide hls
    clear hls hb
    go_wp2_with (first
     |(go_at_call 147;refine (zad a k hs _ (by omega)).mono ?_;rw [Hb.out];rintro e w' ⟨rfl,rfl⟩)
     |(at_builtin;refine zP w wr rfl _ _ _ rfl 3 _ 1 8 Tryz.underlying71 zY rfl (by decide) u3 _ _ _ _ rfl rfl hext hown rfl (zaZ _) (by unfold maxLen;omega) (by omega) ?_;intro v' w1 hext1 hown1 hg1 hat1))
    exact yH01a2
  ·obtain rfl:k=6:=by omega
   obtain⟨A,c,rfl⟩:=zh hown
   go_wp2
   go_ret
   exact⟨_,_,rfl,hown,hext⟩
def zda (b:UInt8):Bool:=decide (97≤(b.toNat:Int)∧(b.toNat:Int)≤102)
def zbz (s:ByteArray):Bool:=decide (s.size≤50000)&&s.data.toList.all zda
theorem zbO (s:ByteArray) (i:Nat)(h:i<s.size):s.data.toList[i]?=some s[i]:=by
 rw [List.getElem?_eq_getElem (by simpa using h)];rfl
theorem yH01a1 {P:Prop}(h:P:=by
 go_wp2_with (go_at_call 148;refine (zbb s k hlt _).mono ?_;rw [hx.out];rintro e w' ⟨rfl,rfl⟩)
 go_ret
 exact⟨zk (by rw [zbz,zaw hg.out (by have:=hx.out;simp [zda];omega),Bool.and_false]),rfl⟩
 ):P:=h
theorem zco (s:ByteArray) (w:World)(hs:s.size≤9223372036854775807) :
  Calls Tryz.prog 114 #[.string s] w fun e w'=>e=.returned (.bool (zbz s))∧w=w':=by
 by_cases h:50000<s.size
 ·go_enter Tryz.func114,Tryz.ntmps114
  go_wp2
  go_ret
  exact⟨by simp [zbz,show ¬ s.size≤50000 by omega],rfl⟩
 ·go_enter Tryz.func114,Tryz.ntmps114
  go_wp2
  go_loop [3] (fun i=>∃ k:Nat,k≤s.size∧i=.int .i64 k∧Hid ((s.data.toList.take k).all zda=true)) (fun i=>s.size - (intOf i).toNat)
  case atStart=>exact⟨0,Nat.zero_le _,rfl,rfl⟩
  case round =>
   obtain⟨k,hk,rfl,hall⟩:=hrel
   by_cases hlt:k<s.size
   ·have hg:=hide (zbO s k hlt)
    obtain⟨x,hx,hx0,hx1⟩:∃ x:Int,Hid ((s[k].toNat:Int) - 97=x) ∧ -97≤x∧x≤158:=⟨(s[k].toNat:Int) - 97,hide rfl,by omega,by have:=zbT s k hlt;omega⟩
    by_cases h0:x<0
    ·exact yH01a1
    ·by_cases h1:6≤x
     ·exact yH01a1
     ·go_wp2_with (go_at_call 148;refine (zbb s k hlt _).mono ?_;rw [hx.out];rintro e w' ⟨rfl,rfl⟩)
      go_round
      case rel=>exact⟨k+1,by omega,by go_num,zbN hg.out hall.out (by have:=hx.out;simp [zda];omega)⟩
      case measure=>simp [intOf];omega
   ·obtain rfl:k=s.size:=by omega
    go_wp2
    go_ret
    exact⟨zk (by rw [zbz,zdE (by simp) hall.out];simp;omega),rfl⟩
def overB (s:ByteArray) (a:Nat):Bool:=s.data.toList.all fun b=>hasB a (ltr b.toNat)
set_option maxHeartbeats 400000
def rowB (k n:Nat) (row:List Int):Bool:=decide (row.length=k)&&row.all fun q=>decide (0≤q∧q<n)
def zg (a:Aut):Bool:=
 decide (0≤a.al∧a.al≤63)&&(decide (1≤a.next.length∧a.next.length≤12)&&(decide (a.acc.length=a.next.length)&&a.next.all (rowB (letters a.al.toNat 6).length a.next.length)))
theorem zgu (lo hi:Nat) (A:Option Addr) (n c:Nat) (l:List Int) (k m:Nat) (w:World)(h:Reads w lo hi 1 A n (ints l))(hk:k≤100) (_hm:m≤100) :
  Calls Tryz.prog 97 #[.slice A n c,.int .i64 k,.int .i64 m] w fun e w'=>e=.returned (.bool (rowB k m l))∧w=w':=by
 have hn:=h.len
 have hl:l.length=n:=by have:=h.length;rw [zdN] at this;omega
 have Hl:=hide hl
 clear hl
 by_cases he:n=k
 ·subst he
  go_enter Tryz.func97,Tryz.ntmps97
  go_wp2
  go_loop [7] (fun i=>∃ k:Nat,k≤n∧i=.int .i64 k∧Hid ((l.take k).all (fun q=>decide (0≤q∧q<m))=true)) (fun i=>n - (intOf i).toNat)
  case atStart=>exact⟨0,Nat.zero_le _,rfl,rfl⟩
  case round =>
   obtain⟨k,hk,rfl,hall⟩:=hrel
   by_cases hlt:k<n
   ·obtain⟨ad,x,rfl,_,_,hx,hcell⟩:=h.int hlt
    by_cases h0:x<0
    ·go_wp2
     go_ret
     exact⟨zk (by rw [rowB,zaw hx.out (by simp;omega),Bool.and_false]),rfl⟩
    ·by_cases h1:(m:Int)≤x
     ·go_wp2
      go_ret
      exact⟨zk (by rw [rowB,zaw hx.out (by simp;omega),Bool.and_false]),rfl⟩
     ·go_wp2
      go_round
      case rel=>exact⟨k+1,by omega,by go_num,zbN hx.out hall.out (by simp;omega)⟩
      case measure=>simp [intOf];omega
   ·obtain rfl:k=n:=by omega
    go_wp2
    go_ret
    exact⟨zk (by rw [rowB,zdE (by have:=Hl.out;omega) hall.out,Hl.out];simp),rfl⟩
 ·go_enter Tryz.func97,Tryz.ntmps97
  go_wp2
  go_ret
  exact⟨zk (by rw [rowB,Hl.out];simp [he]),rfl⟩
theorem zx (lo hi:Nat) (A:Option Addr) (n c:Nat) (A':Option Addr) (n' c':Nat) (a:Aut) (w:World)(h:zF w lo hi A n A' n' a) :
  Calls Tryz.prog 46 #[.agg #[.int .i64 a.al,.slice A n c,.slice A' n' c']] w fun e w'=>e=.returned (.bool (zg a))∧Ext w w':=by
 have h1:=h.n1
 have h2:=h.n2
 have Hv:=hide (show zg a=(decide (0≤a.al∧a.al≤63)&&(decide (1≤n∧n≤12)&&(decide (n'=n)&&a.next.all (rowB (letters a.al.toNat 6).length n)))) by unfold zg;rw [← h1,← h2])
 have hl1:=h.1.len
 have hl2:=h.2.2.len
 clear h1 h2
 by_cases hal:0≤a.al∧a.al≤63
 ·have hd:=hide (show decide (0≤a.al∧a.al≤63)=true by simp;omega)
  by_cases hn:1≤n∧n≤12
  ·have hd1:decide ((n:Int)<1)=false:=by simp;omega
   have hd2:decide (12<(n:Int))=false:=by simp;omega
   by_cases hn':n'=n
   ·subst hn'
    obtain⟨al,hal'⟩:∃ al:Nat,Hid (a.al=al):=⟨a.al.toNat,by unfold Hid;omega⟩
    have hsm:Sm al:=by have:=hal'.out;unfold Sm;omega
    have hll:=zy al 6
    rw [hal'.out]
    rw [hal'.out] at hd
    rw [hal'.out,Int.toNat_natCast] at Hv
    clear hal
    have hR:=fun W (hW:Ext w W)=>h.1.ext hW
    have HR:=hide hR
    clear hR
    go_enter Tryz.func46,Tryz.ntmps46
    go_wp2_with (go_at_call 96;refine (zM _ _).mono ?_;rw [hd.out];rintro e w' ⟨rfl,rfl⟩)
    go_loopw [4] (fun i wr=>∃ k:Nat,k≤n'∧i=.int .i64 k∧Hid ((a.next.take k).all (rowB (letters al 6).length n')=true)∧Ext (w.alloc (.cells #[Value.int .i64 al,Value.slice A n' c,Value.slice A' n' c'] 27)) wr)
     (fun i _=>n' - (intOf i).toNat)
    case atStart=>exact⟨0,Nat.zero_le _,rfl,rfl,Ext.refl _⟩
    case round =>
     obtain⟨k,hk,rfl,hall,hext⟩:=hrel
     have hbox:∀ W,Ext wr W→∀ j,W.cell? ⟨w.heap.size,j,none⟩=#[Value.int .i64 al,Value.slice A n' c,Value.slice A' n' c'][j]?:=fun W hW=>zbA (hext.trans hW)
     by_cases hlt:k<n'
     ·obtain⟨ad,Ak,ck,l,rfl,hlo,hhi,hl,hcell,hrk⟩:=(HR.out wr (((Ext.refl _).alloc _).trans hext)).row hlt
      have hce:∀ W,Ext wr W→W.cell? (ad.add k)=some (.slice Ak l.length ck):=fun W hW=>hW.cell_some hcell
      have hwr:=Ext.refl wr
      have hfin:∀ W,Ext wr W→Ext w W:=fun W hW=>(((Ext.refl _).alloc _).trans hext).trans hW
      have Hfin:=hide hfin
      clear hfin
      cases hrb:rowB (letters al 6).length n' l
      ·have Hrb:=hide hrb
       clear hrb
       go_wp2_with fail
       go_region_held3 (fun W=>Ext wr W) (first|assumption|(refine Ext.drew ?_;assumption)|(refine Ext.trans ?_ (by assumption);assumption)|(refine Ext.trans ?_ (by assumption);refine Ext.drew ?_;assumption)) (first|(go_at_call 98;refine (zS _ hsm _).mono ?_;rintro e w2 ⟨A2,c2,rfl,hown2,hext2⟩)|(go_at_call 97;refine (zgu _ _ _ _ _ _ _ _ _ (hrk.ext ?_) (by omega) (by omega)).mono ?_;assumption;rw [Hrb.out];rintro e w3 ⟨rfl,rfl⟩))
       go_wp2
       go_ret
       exact⟨zk (by rw [Hv.out,zaw hl.out Hrb.out];simp),Hfin.out _ (by assumption)⟩
      ·have Hrb:=hide hrb
       clear hrb
       go_wp2_with fail
       go_region_held3 (fun W=>Ext wr W) (first|assumption|(refine Ext.drew ?_;assumption)|(refine Ext.trans ?_ (by assumption);assumption)|(refine Ext.trans ?_ (by assumption);refine Ext.drew ?_;assumption)) (first|(go_at_call 98;refine (zS _ hsm _).mono ?_;rintro e w2 ⟨A2,c2,rfl,hown2,hext2⟩)|(go_at_call 97;refine (zgu _ _ _ _ _ _ _ _ _ (hrk.ext ?_) (by omega) (by omega)).mono ?_;assumption;rw [Hrb.out];rintro e w3 ⟨rfl,rfl⟩))
       go_wp2
       go_roundw
       case rel=>exact⟨k+1,by omega,by go_num,zbN hl.out hall.out Hrb.out,hext.trans (by assumption)⟩
       case measure=>simp [intOf];omega
     ·obtain rfl:k=n':=by omega
      go_wp2
      go_ret
      exact⟨zk (by rw [Hv.out,zdE (by have:=h.n1;omega) hall.out,hd.out];simp;omega),((Ext.refl _).alloc _).trans hext⟩
   ·have hne:((n':Int) != (n:Int))=true:=by simp;omega
    go_enter Tryz.func46,Tryz.ntmps46
    go_wp2_with (go_at_call 96;refine (zM _ _).mono ?_;rw [hd.out];rintro e w' ⟨rfl,rfl⟩)
    go_ret
    exact⟨zk (by rw [Hv.out];simp [hn']),(Ext.refl _).alloc _⟩
  ·go_enter Tryz.func46,Tryz.ntmps46
   go_wp2_with (go_at_call 96;refine (zM _ _).mono ?_;rw [hd.out];rintro e w' ⟨rfl,rfl⟩)
   all_goals go_ret
   all_goals exact⟨zk (by rw [Hv.out];simp [hn]),(Ext.refl _).alloc _⟩
 ·go_enter Tryz.func46,Tryz.ntmps46
  have hd:decide (0≤a.al∧a.al≤63)=false:=by simp;omega
  go_wp2_with (go_at_call 96;refine (zM _ _).mono ?_;rw [hd];rintro e w' ⟨rfl,rfl⟩)
  go_ret
  exact⟨zk (by rw [Hv.out];simp;omega),(Ext.refl _).alloc _⟩
def place (a l:Nat):Nat:=(letters a l).length
def aGo (a:Aut) (q l:Nat):Nat:=if a.al.toNat.testBit l then ((a.next.getD q []).getD (place a.al.toNat l) 0).toNat else q
abbrev Mem:=Nat × (Nat→Nat→List Nat)
def sMem (s:Sys):Mem:=(s.st.toNat,cho s)
def aMem (a:Aut):Mem:=(a.next.length,fun q l=>[aGo a q l])
def zaj:List Nat→Nat
 |[]=>1
 |m :: r=>m*zaj r
def zB (ms:List Mem):Nat:=zaj (ms.map Prod.fst)
theorem zcx (m:Mem) (r:List Mem):zB (m :: r)=m.1*zB r:=rfl
theorem zch (a b:List Nat):zaj (a++b)=zaj a*zaj b:=by
 induction a with
 |nil=>simp [zaj]
 |cons x r ih=>rw [List.cons_append,zaj,zaj,ih,Nat.mul_assoc]
theorem zbn (a b:List Mem):zB (a++b)=zB a*zB b:=by
 unfold zB
 rw [List.map_append,zch]
theorem prodS_pos {l:List Nat}(h:∀ x∈l,1≤x):1≤zaj l:=by
 induction l with
 |nil=>simp [zaj]
 |cons x r ih=>exact Nat.mul_pos (h x (by simp)) (ih fun y hy=>h y (by simp [hy]))
def dec:List Nat→Nat→List Nat
 |[],_=>[]
 |s :: r,x=>(x / zaj r % s) :: dec r x
theorem zcs (l:List Nat) (x:Nat):(dec l x).length=l.length:=by
 induction l with
 |nil=>rfl
 |cons s r ih=>simp [dec,ih]
theorem zgC {l:List Nat} {x k s:Nat}(h:l[k]?=some s):(dec l x)[k]?=some (x / zaj (l.drop (k+1)) % s):=by
 induction l generalizing k with
 |nil=>simp at h
 |cons t r ih =>
  cases k with
  |zero=>simp at h;subst h;simp [dec]
  |succ k=>simp at h;simpa [dec] using ih h
def encF (acc:Nat):List Nat→List Nat→Nat
 |s :: r,x :: xs=>encF (acc*s+x) r xs
 |_,_=>acc
def pnx:List Mem→Nat→Nat→List Nat
 |[],_,_=>[0]
 |m :: r,x,l=>(m.2 (x / zB r % m.1) l).flatMap fun q=>(pnx r x l).map fun y=>q*zB r+y
def zdt (m:Mem):Prop:=1≤m.1∧∀ q l,q<m.1→l<6→∀ x∈m.2 q l,x<m.1
theorem zek {ms:List Mem}(h:∀ m∈ms,zdt m):1≤zB ms:=prodS_pos fun x hx=>by
 obtain⟨m,hm,rfl⟩:=List.mem_map.1 hx
 exact (h m hm).1
theorem zgs {ms:List Mem}(h:∀ m∈ms,zdt m) {x l:Nat}(hl:l<6):∀ y∈pnx ms x l,y<zB ms:=by
 induction ms with
 |nil=>intro y hy;simp [pnx] at hy;subst hy;simp [zB,zaj]
 |cons m r ih =>
  intro y hy
  rw [pnx] at hy
  obtain⟨q,hq,hy⟩:=List.mem_flatMap.1 hy
  obtain⟨z,hz,rfl⟩:=List.mem_map.1 hy
  have h1:=(h m (by simp)).2 _ l (Nat.mod_lt _ (h m (by simp)).1) hl q hq
  have h2:=ih (fun m hm=>h m (by simp [hm])) z hz
  rw [zcx]
  calc q*zB r+z<q*zB r+zB r:=by omega
   _=(q+1)*zB r:=by rw [Nat.add_mul,Nat.one_mul]
   _≤m.1*zB r:=Nat.mul_le_mul_right _ h1
theorem zeC (a b:List Mem) (x l:Nat):pnx (a++b) x l=(pnx a (x / zB b) l).flatMap fun q=>(pnx b x l).map fun y=>q*zB b+y:=by
 induction a with
 |nil=>simp [pnx]
 |cons m r ih =>
  rw [List.cons_append,pnx,pnx,ih,zbn,List.flatMap_assoc]
  rw [Nat.div_div_eq_div_mul,Nat.mul_comm (zB b) (zB r)]
  congr 1
  funext q
  rw [List.map_flatMap,List.flatMap_map]
  congr 1
  funext z
  rw [List.map_map]
  congr 1
  funext y
  simp only [Function.comp]
  rw [Nat.add_mul,Nat.mul_assoc,Nat.add_assoc]
theorem nx_pnx (ss:List Sys) (m l:Nat):nx ss m l=(pnx (ss.map sMem) m l,zB (ss.map sMem),m / zB (ss.map sMem)):=by
 induction ss with
 |nil=>simp [nx,pnx,zB,zaj]
 |cons s r ih =>
  rw [nx,ih,List.map_cons,pnx,zcx]
  simp only [sMem]
  rw [Nat.div_div_eq_div_mul,Nat.mul_comm (zB _) s.st.toNat]
theorem pnx_two (a p:Aut) (x l:Nat):pnx [aMem a,aMem p] x l=[aGo a (x / p.next.length % a.next.length) l*p.next.length+aGo p (x % p.next.length) l]:=by
 simp [pnx,aMem,zB,zaj]
theorem pnx_one (p:Aut) (x l:Nat):pnx [aMem p] x l=[aGo p (x % p.next.length) l]:=by
 simp [pnx,aMem,zB,zaj]
theorem pnx_under (ss:List Sys) (a p:Aut) (x l:Nat) :
  pnx (ss.map sMem++[aMem a,aMem p]) x l=(nx ss (x / p.next.length / a.next.length) l).1.map fun y=>y*a.next.length*p.next.length+(aGo a (x / p.next.length % a.next.length) l*p.next.length+aGo p (x % p.next.length) l):=by
 have hp:zB [aMem a,aMem p]=a.next.length*p.next.length:=by simp [zB,zaj,aMem]
 rw [zeC,pnx_two,nx_pnx,hp,Nat.div_div_eq_div_mul,Nat.mul_comm p.next.length a.next.length]
 simp only [List.map_cons,List.map_nil,← List.map_eq_flatMap,Nat.mul_assoc]
def free:Aut:=⟨0,[[]],[true]⟩
theorem pnx_free (ss:List Sys) (p:Aut) (x l:Nat):pnx (ss.map sMem++[aMem free,aMem p]) x l=pnx (ss.map sMem++[aMem p]) x l:=by
 have h0:∀ q l,aGo free q l=q:=fun q l=>by simp [aGo,free]
 rw [zeC,zeC,pnx_two,pnx_one,h0]
 have h1:zB [aMem free,aMem p]=p.next.length:=by simp [zB,zaj,aMem,free]
 have h2:zB [aMem p]=p.next.length:=by simp [zB,zaj,aMem]
 rw [h1,h2]
 have h3:free.next.length=1:=rfl
 rw [h3,Nat.mod_one,Nat.zero_mul,Nat.zero_add]
def fwd (cs:List (Nat × List Nat)):List Nat:=cs.foldl (fun out c=>out.flatMap fun o=>c.2.map fun x=>o*c.1+x) [0]
theorem zgF (cs:List (Nat × List Nat)) (c:Nat × List Nat):fwd (cs++[c])=(fwd cs).flatMap fun o=>c.2.map fun x=>o*c.1+x:=by simp [fwd]
def chs:List Mem→Nat→Nat→List (Nat × List Nat)
 |[],_,_=>[]
 |m :: r,x,l=>(m.1,m.2 (x / zB r % m.1) l) :: chs r x l
theorem zey (ms:List Mem) (x l:Nat):(chs ms x l).length=ms.length:=by
 induction ms with
 |nil=>rfl
 |cons m r ih=>simp [chs,ih]
theorem chs_get {ms:List Mem} {x l k:Nat} {m:Mem}(h:ms[k]?=some m):(chs ms x l)[k]?=some (m.1,m.2 (x / zB (ms.drop (k+1)) % m.1) l):=by
 induction ms generalizing k with
 |nil=>simp at h
 |cons t r ih =>
  cases k with
  |zero=>simp at h;subst h;simp [chs]
  |succ k=>simp at h;simpa [chs] using ih h
theorem foldl_pnx (ms:List Mem) (x l:Nat) (out:List Nat):(chs ms x l).foldl (fun out c=>out.flatMap fun o=>c.2.map fun x=>o*c.1+x) out=out.flatMap fun o=>(pnx ms x l).map fun y=>o*zB ms+y:=by
 induction ms generalizing out with
 |nil=>simp [chs,pnx,zB,zaj]
 |cons m r ih =>
  rw [chs,List.foldl_cons,ih,pnx,List.flatMap_assoc]
  congr 1
  funext o
  rw [List.flatMap_map,List.map_flatMap]
  congr 1
  funext q
  rw [List.map_map]
  congr 1
  funext y
  simp only [Function.comp,zcx]
  rw [Nat.add_mul,Nat.mul_assoc,Nat.add_assoc]
theorem fwd_pnx (ms:List Mem) (x l:Nat):fwd (chs ms x l)=pnx ms x l:=by
 have:=foldl_pnx ms x l [0]
 simpa [fwd] using this
theorem flat_len {α β:Type} {l:List α} {f:α→List β} {k:Nat}(h:∀ x∈l,(f x).length≤k):(l.flatMap f).length≤l.length*k:=by
 induction l with
 |nil=>simp
 |cons x r ih =>
  have h1:=ih fun y hy=>h y (by simp [hy])
  have h2:=h x (by simp)
  rw [List.flatMap_cons,List.length_append,List.length_cons,Nat.add_mul,Nat.one_mul]
  omega
theorem fwd_len {cs:List (Nat × List Nat)}(h:∀ c∈cs,c.2.length≤c.1):(fwd cs).length≤zaj (cs.map Prod.fst):=by
 have key:∀ n,n≤cs.length→(fwd (cs.take n)).length≤zaj ((cs.take n).map Prod.fst):=by
  intro n
  induction n with
  |zero=>intro _;simp [fwd,zaj]
  |succ n ih =>
   intro hn
   have hc:cs[n]?=some cs[n]:=List.getElem?_eq_getElem (by omega)
   rw [List.take_add_one,hc]
   simp only [Option.toList_some]
   rw [zgF,List.map_append,zch]
   refine Nat.le_trans (flat_len (k:=(cs[n]).2.length) fun x _=>by simp) ?_
   refine Nat.mul_le_mul (ih (by omega)) ?_
   simpa [zaj] using h cs[n] (List.getElem_mem _)
 have:=key cs.length (Nat.le_refl _)
 rwa [List.take_length] at this
theorem fwd_lt {cs:List (Nat × List Nat)}(h:∀ c∈cs,∀ x∈c.2,x<c.1):∀ y∈fwd cs,y<zaj (cs.map Prod.fst):=by
 have key:∀ n,n≤cs.length→∀ y∈fwd (cs.take n),y<zaj ((cs.take n).map Prod.fst):=by
  intro n
  induction n with
  |zero=>intro _ y hy;simp [fwd] at hy;subst hy;simp [zaj]
  |succ n ih =>
   intro hn y hy
   have hc:cs[n]?=some cs[n]:=List.getElem?_eq_getElem (by omega)
   rw [List.take_add_one,hc] at hy ⊢
   simp only [Option.toList_some] at hy ⊢
   rw [zgF] at hy
   rw [List.map_append,zch]
   obtain⟨o,ho,hy⟩:=List.mem_flatMap.1 hy
   obtain⟨x,hx,rfl⟩:=List.mem_map.1 hy
   have h1:=ih (by omega) o ho
   have h2:=h cs[n] (List.getElem_mem _) x hx
   simp only [List.map_cons,List.map_nil,zaj,Nat.mul_one]
   calc o*(cs[n]).1+x<o*(cs[n]).1+(cs[n]).1:=by omega
    _=(o+1)*(cs[n]).1:=by rw [Nat.add_mul,Nat.one_mul]
    _≤_:=Nat.mul_le_mul_right _ h1
 have:=key cs.length (Nat.le_refl _)
 rwa [List.take_length] at this
theorem zdQ {s:Sys}(h:Sml s):zdt (sMem s):=⟨by have:=h.1;simp only [sMem];omega,fun q l hq hl x hx=>cho_lt h hq x hx⟩
theorem zi {a:Aut}(h:zg a=true):(0≤a.al∧a.al≤63)∧(1≤a.next.length∧a.next.length≤12)∧a.acc.length=a.next.length∧∀ (q:Nat) (row:List Int),a.next[q]?=some row→row.length=(letters a.al.toNat 6).length∧∀ x∈row,0≤x∧x<a.next.length:=by
 simp only [zg,Bool.and_eq_true,decide_eq_true_eq,List.all_eq_true] at h
 obtain⟨h1,h2,h3,h4⟩:=h
 refine⟨h1,h2,h3,fun q row hr=>?_⟩
 have:=h4 row (List.mem_of_getElem? hr)
 simp only [rowB,Bool.and_eq_true,decide_eq_true_eq,List.all_eq_true] at this
 exact this
theorem place_lt {a l:Nat}(hl:l<6)(hb:a.testBit l=true):place a l<(letters a 6).length:=by
 have key:∀ n,l+1≤n→place a l<(letters a n).length:=by
  intro n
  induction n with
  |zero=>intro h;omega
  |succ n ih =>
   intro h
   rw [zaR,List.length_append]
   by_cases e:n=l
   ·subst e
    simp [place,hb]
   ·have:=ih (by omega)
    omega
 exact key 6 (by omega)
theorem zdW {a:Aut}(h:zg a=true) {q l:Nat}(hq:q<a.next.length)(hl:l<6):aGo a q l<a.next.length:=by
 obtain⟨_,_,_,hr⟩:=zi h
 unfold aGo
 split
 ·rename_i hb
  have hrow:a.next[q]?=some a.next[q]:=List.getElem?_eq_getElem hq
  obtain⟨h1,h2⟩:=hr q _ hrow
  have hp:=place_lt hl hb
  rw [← h1] at hp
  have hx:=h2 _ (List.getElem_mem hp)
  simp only [List.getD_eq_getElem?_getD,hrow,Option.getD_some,List.getElem?_eq_getElem hp]
  omega
 ·exact hq
theorem zbs {a:Aut}(h:zg a=true):zdt (aMem a):=⟨(zi h).2.1.1,fun q l hq hl x hx=>by
 simp only [aMem,List.mem_singleton] at hx ⊢
 subst hx
 exact zdW h hq hl⟩
theorem zdm:zg free=true:=by decide
set_option maxHeartbeats 1000000
theorem wrap_pow2 {t:Nat}(ht:t<32):wrap64 ((2:Int) ^ t)=((2 ^ t:Nat):Int):=by
 have hp:=(Sm.bit ht).lt
 have e:(2:Int) ^ t=((2 ^ t:Nat):Int):=by simp
 rw [e]
 generalize (2:Nat) ^ t=p at *
 unfold wrap64
 omega
theorem zeH (n:Nat)(hn:n<32) (w:World) :
  Calls Tryz.prog 182 #[.int .i64 n] w fun e w'=>e=.returned (.int .i64 (2 ^ n:Nat))∧w=w':=by
 have hu:IntKind.u64.wrap (n:Int)=n:=by rw [IntKind.wrap_u64];omega
 have h64:(n:Int)≤64:=by omega
 have hw:=hide (wrap_pow2 hn)
 go_enter Tryz.func182,Tryz.ntmps182
 go_wp2
 go_ret
 exact⟨zE (by rw [← hw.out]),rfl⟩
def zcW (es:List Edg) (set:Nat) (l:Int):Nat:=es.foldl (fun m e=>if e.le=l∧set.testBit e.fr.toNat=true then m|||2 ^ e.ta.toNat else m) 0
theorem stepB_snoc (es:List Edg) (e:Edg) (set:Nat) (l:Int):zcW (es++[e]) set l=if e.le=l∧set.testBit e.fr.toNat=true then zcW es set l|||2 ^ e.ta.toNat else zcW es set l:=by simp [zcW]
theorem stepB_bit (es:List Edg) (set:Nat) (l:Int) (k:Nat):(zcW es set l).testBit k=true↔∃ e∈es,(e.le=l∧set.testBit e.fr.toNat=true)∧e.ta.toNat=k:=by
 have:=foldl_bit es (fun e=>e.le=l∧set.testBit e.fr.toNat=true) 0 k
 simpa [zcW] using this
theorem stepB_lt {n:Nat} {es:List Edg}(h:Few n es) (set:Nat) (l:Int):zcW es set l<2 ^ n:=by
 apply Nat.lt_pow_two_of_testBit
 intro k hk
 rw [Bool.eq_false_iff]
 intro hb
 obtain⟨e,he,_,h3⟩:=(stepB_bit es set l k).1 hb
 have:=h e he
 omega
theorem zfO {lo hi:Nat} {A:Option Addr} {n c:Nat} {s:Sys} {set:Nat} {l:Int} {k0:Nat} {w:World}(h:zQ w lo hi A n s)(hf:Few k0 s.edges)(hk0:k0≤16)(hset:Sm set) :
  Calls Tryz.prog 129 #[.agg #[.int .i64 s.al,.int .i64 s.st,.slice A n c],.int .i64 set,.int .i64 l] w fun e w'=>e=.returned (.int .i64 (zcW s.edges set l:Nat))∧Ext w w':=by
 have hn:=h.2.len
 have hL:=hide h.1
 have HR:=hide (fun W (hW:Ext w W)=>h.2.ext hW)
 have Hf:=hide hf
 clear hf
 go_enter Tryz.func129,Tryz.ntmps129
 go_wp2
 go_loopw [7,8] (fun v i wr=>∃ k:Nat,k≤n∧i=.int .i64 k∧∃ y:Nat,v=.int .i64 y∧Sm y∧Hid (y=zcW (s.edges.take k) set l)∧Ext w wr∧Ext (w.alloc (.cells #[.int .i64 s.al,.int .i64 s.st,.slice A n c] 39)) wr) (fun _ i _=>n - (intOf i).toNat)
 case atStart=>exact⟨0,Nat.zero_le _,rfl,0,rfl,by unfold Sm;omega,rfl,(Ext.refl _).alloc _,Ext.refl _⟩
 case round =>
  obtain⟨k,hk,rfl,y,rfl,hy,hyo,hext,hexb⟩:=hrel
  have cb:=fun j=>zbA (j:=j) hexb
  by_cases hlt:k<n
  ·obtain⟨b,o,x,rfl,_,_,hx,c0,c1,c2⟩:=(HR.out wr hext).edge hlt
   obtain⟨⟨f0,f1⟩,⟨g0,g1⟩,⟨t0,t1⟩⟩:=Hf.out x (List.mem_of_getElem? hx.out)
   have Htk:=hide (show s.edges.take (k+1)=s.edges.take k++[x] by rw [List.take_add_one,hx.out];rfl)
   obtain⟨f,hfe⟩:∃ f:Nat,x.fr=f:=⟨x.fr.toNat,by omega⟩
   obtain⟨t,hte⟩:∃ t:Nat,x.ta=t:=⟨x.ta.toNat,by omega⟩
   rw [hfe] at c0 f0 f1
   rw [hte] at c2 t0 t1
   have hs1:=hide (stepB_snoc (s.edges.take k) x set l)
   by_cases hle:x.le=l
   ·have hle':(x.le==l)=true:=by simp [hle]
    have Hle:=hide hle
    clear hle
    cases hb:set.testBit f
    ·have Hb:=hide hb
     clear hb
     go_wp2_with (go_at_call 147;refine (zad set f hset _ (by omega)).mono ?_;rw [Hb.out];rintro e w' ⟨rfl,rfl⟩)
     go_roundw
     case rel=>exact⟨k+1,by omega,by go_num,y,rfl,hy,by unfold Hid;rw [Htk.out,hs1.out,if_neg (by rintro ⟨_,h2⟩;rw [hfe] at h2;simp [Hb.out] at h2)];exact hyo.out,hext,hexb⟩
     case measure=>simp [intOf];omega
    ·have Hb:=hide hb
     clear hb
     have hor:=hide (show bits .or .i64 (y:Nat) ((2:Int) ^ t)=((y|||2 ^ t:Nat):Int) by have:=zaO hy (Sm.bit (n:=t) (by omega));rw [show (((2:Nat) ^ t:Nat):Int)=(2:Int) ^ t by simp] at this;exact this)
     go_wp2_with (first
      |(go_at_call 147;refine (zad set f hset _ (by omega)).mono ?_;rw [Hb.out];rintro e w' ⟨rfl,rfl⟩)
      |(go_at_call 182;refine (zeH t (by omega) _).mono ?_;rintro e w' ⟨rfl,rfl⟩))
     go_roundw
     case rel=>exact⟨k+1,by omega,by go_num,y|||2 ^ t,by rw [hor.out],hy.or (Sm.bit (by omega)),by unfold Hid;rw [Htk.out,hs1.out,if_pos ⟨Hle.out,by rw [hfe];simpa using Hb.out⟩,← hyo.out,hte];rfl,hext,hexb⟩
     case measure=>simp [intOf];omega
   ·have hle':(x.le==l)=false:=by simp [hle]
    have Hle:=hide hle
    clear hle
    go_wp2
    go_roundw
    case rel=>exact⟨k+1,by omega,by go_num,y,rfl,hy,by unfold Hid;rw [Htk.out,hs1.out,if_neg (by rintro ⟨h2,_⟩;exact Hle.out h2)];exact hyo.out,hext,hexb⟩
    case measure=>simp [intOf];omega
  ·obtain rfl:n=k:=by omega
   go_wp2
   go_ret
   exact⟨zE (by rw [hyo.out,hL.out,List.take_length]),hext⟩
set_option maxHeartbeats 2000000
theorem Reads.nat {w:World} {lo hi n k:Nat} {A:Option Addr} {l:List Nat}(h:Reads w lo hi 1 A n (nats l))(hk:k<n):∃ ad x,A=some ad∧lo≤ad.block∧ad.block<hi∧Hid (l[k]?=some x)∧w.cell? (ad.add k)=some (.int .i64 (x:Nat)):=by
 have e:nats l=ints (l.map fun n:Nat=>(n:Int)):=by simp [nats,ints]
 rw [e] at h
 obtain⟨ad,x,ha,hl,hh,hx,hc⟩:=h.int hk
 have hx':=hx.out
 rw [List.getElem?_map] at hx'
 cases hq:l[k]? with
 |none=>rw [hq] at hx';simp at hx'
 |some q =>
  rw [hq] at hx'
  simp at hx'
  exact⟨ad,q,ha,hl,hh,rfl,by rw [hc,hx']⟩
def MovAt (w:World) (b:Nat) (es:List Edg):Prop:=∀ i l:Nat,i<16→l<6→w.cell? ⟨b,i*6+l,none⟩=some (.int .i64 (succ es i l:Nat))
set_option maxHeartbeats 2000000
def MovB (w:World) (b:Nat) (es:List Edg):Prop:=∃ cs,Blk w b 194 cs∧∀ i l:Nat,i<16→l<6→cs[i*6+l]?=some (.int .i64 (succ es i l:Nat))
theorem MovB.at_ {w:World} {b:Nat} {es:List Edg}(h:MovB w b es):MovAt w b es:=by
 obtain⟨cs,hb,hc⟩:=h
 exact fun i l hi hl=>by rw [hb.cell,hc i l hi hl]
theorem MovB.ext {w w':World} {b:Nat} {es:List Edg}(h:MovB w b es)(hx:Ext w w'):MovB w' b es:=by
 obtain⟨cs,hb,hc⟩:=h
 exact⟨cs,hb.ext hx,hc⟩
theorem zero_mov (w:World):(zeroValue 194).run Tryz.prog w=.ok (.agg (Array.replicate 96 (.int .i64 0))) w:=by kernel_rfl
theorem wrap_pow {t:Nat}(ht:t<32):wrap64 ((2:Int) ^ t)=((2 ^ t:Nat):Int):=by
 have hp:=(Sm.bit ht).lt
 have e:(2:Int) ^ t=((2 ^ t:Nat):Int):=by simp
 rw [e]
 generalize (2:Nat) ^ t=p at *
 unfold wrap64
 omega
theorem mov_store {cs:Array Value} {es:List Edg} {f g t i l:Nat}(hcs:∀ i l:Nat,i<16→l<6→cs[i*6+l]?=some (.int .i64 (succ es i l:Nat)))(hs:Sm (succ es f g))(ht:t<16)(hf:f<16)(hg:g<6)(hi:i<16)(hl:l<6) :
  (cs.setIfInBounds (f*6+g) (.int .i64 (bits .or .i64 (succ es f g:Nat) (wrap64 (2 ^ t)))))[i*6+l]?=some (.int .i64 ((if (f:Int)=i∧(g:Int)=l then succ es i l|||2 ^ (t:Int).toNat else succ es i l:Nat))):=by
 rw [wrap_pow (by omega),zaO hs (Sm.bit (by omega)),Array.getElem?_setIfInBounds]
 by_cases he:f*6+g=i*6+l
 ·have e1:f=i:=by omega
  have e2:g=l:=by omega
  subst e1;subst e2
  have hsz:f*6+g<cs.size:=by
   rcases Nat.lt_or_ge (f*6+g) cs.size with h1|h1
   ·exact h1
   ·have:=hcs f g hf hg
    rw [Array.getElem?_eq_none h1] at this
    cases this
  rw [if_pos rfl,if_pos hsz,if_pos ⟨rfl,rfl⟩]
  rfl
 ·rw [if_neg he,hcs i l hi hl,if_neg]
  rintro ⟨h1,h2⟩
  exact he (by omega)
set_option maxRecDepth 100000 in
theorem impl_movesOf {lo hi:Nat} {A:Option Addr} {n c:Nat} {s:Sys} {w:World}(h:zQ w lo hi A n s)(hf:Few 16 s.edges) :
  Calls Tryz.prog 123 #[.agg #[.int .i64 s.al,.int .i64 s.st,.slice A n c]] w fun e w'=>∃ b,e=.returned (.pointer (some ⟨b,0,none⟩))∧w.heap.size≤b∧MovB w' b s.edges∧Ext w w':=by
 have hn:=h.2.len
 have hL:=hide h.1
 have hR:=fun W (hW:Ext w W)=>h.2.ext hW
 have HR:=hide hR
 clear hR
 have Hf:=hide hf
 clear hf
 go_enter Tryz.func123,Tryz.ntmps123
 have hz:=zero_mov
 generalize hzz:Array.replicate 96 (Value.int .i64 0)=zs at hz
 have Hz:=hide hzz
 clear hzz
 go_wp2_with (simp only [hz])
 go_loopw [10] (fun i wr=>∃ k:Nat,k≤n∧i=.int .i64 k∧MovB wr (w.heap.size+1) (s.edges.take k)∧Ext w wr) (fun i _=>n - (intOf i).toNat)
 case atStart=>exact⟨0,Nat.zero_le _,rfl,⟨zs,by have:=Blk.new (w.alloc (.cells #[.int .i64 s.al,.int .i64 s.st,.slice A n c] 39)) 194 zs;simpa using this,fun i l hi hl=>by rw [← Hz.out,Array.getElem?_replicate,if_pos (by omega)];rfl⟩,((Ext.refl _).alloc _).alloc _⟩
 case round =>
  obtain⟨k,hk,rfl,hmov,hext⟩:=hrel
  by_cases hlt:k<n
  ·obtain⟨b,o,x,rfl,hlo,hhi,hx,c0,c1,c2⟩:=(HR.out wr hext).edge hlt
   obtain⟨⟨f0,f1⟩,⟨g0,g1⟩,⟨t0,t1⟩⟩:=Hf.out x (List.mem_of_getElem? hx.out)
   obtain⟨f,hf⟩:∃ f:Nat,x.fr=f:=⟨x.fr.toNat,by omega⟩
   obtain⟨g,hg⟩:∃ g:Nat,x.le=g:=⟨x.le.toNat,by omega⟩
   obtain⟨t,ht⟩:∃ t:Nat,x.ta=t:=⟨x.ta.toNat,by omega⟩
   rw [hf] at c0 f0 f1
   rw [hg] at c1 g0 g1
   rw [ht] at c2 t0 t1
   have hf':f<16:=by omega
   have hg':g<6:=by omega
   have ht':t<16:=by omega
   clear f0 f1 g0 g1 t0 t1
   obtain⟨cs,hblk,hcs⟩:=hmov
   have hs1:Sm (succ (s.edges.take k) f g):=succ_sm (n:=16) (fun e he=>Hf.out e (List.mem_of_mem_take he)) (by omega) f g
   go_wp2
   have hxq:=(Ext.refl wr).alloc (.cells #[.int .i64 f,.int .i64 g,.int .i64 t] 126)
   have hbq:=Blk.new wr 126 #[.int .i64 f,.int .i64 g,.int .i64 t]
   generalize hq:wr.alloc (.cells #[.int .i64 f,.int .i64 g,.int .i64 t] 126)=wq at *
   clear hq
   have hblq:=hblk.ext hxq
   have hd:wq.cell? ⟨w.heap.size+1,f*6+g,none⟩=some (.int .i64 (succ (s.edges.take k) f g:Nat)):=by rw [hblq.cell,hcs f g hf' hg']
   have hfz:=hblq.frozen (f*6+g)
   have q0:=hbq.cell 0
   have q1:=hbq.cell 1
   have q2:=hbq.cell 2
   go_still_tail 16,(by kernel_rfl)
   have f1:(f:Int)<16:=by omega
   have g1:(g:Int)<6:=by omega
   have t1:(t:Int)≤64:=by omega
   repeat (refine wpStill_step (fun K hK=>?_);go_simp;(try simp only [f1,g1,t1,if_true]);refine hK _ ?_;clear hK K)
   refine wpStill_nil ?_
   change wpList _ _ _ _ _ wq.drew
   have hd2:wq.drew.cell? ⟨w.heap.size+1,f*6+g,none⟩=some (.int .i64 (succ (s.edges.take k) f g:Nat)):=hd
   have hfz2:wq.drew.frozen? ⟨w.heap.size+1,f*6+g,none⟩=false:=hfz
   have hblq2:Blk wq.drew (w.heap.size+1) 194 cs:=hblq
   have hxq2:Ext wr wq.drew:=hxq.drew
   generalize wq.drew=w2 at *
   have Hu:=hide (succ_snoc (s.edges.take k) x)
   have Htk:=hide (show s.edges.take (k+1)=s.edges.take k++[x] by rw [List.take_add_one,hx.out];rfl)
   go_wp2
   go_roundw
   case rel=>exact⟨k+1,by omega,by go_num,⟨_,hblq2.set_ (f*6+g) _,fun i l hi hl=>by
    rw [Htk.out,Hu.out,hf,hg,ht]
    exact mov_store hcs hs1 ht' hf' hg' hi hl⟩,(hext.trans hxq2).setCell (by dsimp only;omega) _⟩
   case measure=>simp [intOf];omega
  ·obtain rfl:k=n:=by omega
   go_wp2
   go_ret
   rw [hL.out,List.take_length] at hmov
   exact⟨_,rfl,by omega,hmov,hext⟩
set_option maxHeartbeats 4000000
theorem zfj (R:List Nat) (i v:Nat):nats (R.set i v)=(nats R).set i (.int .i64 (v:Nat)):=by simp [nats,List.map_set]
set_option maxHeartbeats 400000
def cmpI (x y:Int):Int:=if x<y then -1 else if y<x then 1 else 0
theorem cmp_isNaN (x:Int) (w:World):Calls Tryz.prog 204 #[.int .i64 x] w fun e w'=>e=.returned (.bool false)∧w=w':=by
 have h:(x != x)=false:=by simp
 go_enter Tryz.func204,Tryz.ntmps204
 go_wp2
 go_ret
 exact⟨zk (by simp),rfl⟩
theorem cmp_Compare (x y:Int) (w:World):Calls Tryz.prog 169 #[.int .i64 x,.int .i64 y] w fun e w'=>e=.returned (.int .i64 (cmpI x y))∧w=w':=by
 by_cases h:x<y
 ·go_enter Tryz.func169,Tryz.ntmps169
  go_wp2_with (go_at_call 204;refine (cmp_isNaN _ _).mono ?_;rintro e w' ⟨rfl,rfl⟩)
  go_ret
  exact⟨zE (by unfold cmpI;split<;>omega),rfl⟩
 ·by_cases h':y<x
  all_goals
   go_enter Tryz.func169,Tryz.ntmps169
   go_wp2_with (go_at_call 204;refine (cmp_isNaN _ _).mono ?_;rintro e w' ⟨rfl,rfl⟩)
   go_ret
   exact⟨zE (by unfold cmpI;(repeat' split)<;>omega),rfl⟩
def orI:List Int→Int
 |[]=>0
 |x :: r=>if x=0 then orI r else x
theorem orI_stop {l:List Int} {k:Nat} {x:Int}(h:l[k]?=some x)(hk:∀ y∈l.take k,y=0)(hx:x≠0):orI l=x:=by
 induction l generalizing k with
 |nil=>simp at h
 |cons a r ih =>
  cases k with
  |zero=>simp at h;subst h;rw [orI,if_neg hx]
  |succ k =>
   have ha:a=0:=hk a (by simp)
   rw [orI,if_pos ha]
   exact ih (by simpa using h) (fun y hy=>hk y (by simp [hy]))
theorem orI_end {l:List Int}(hk:∀ y∈l,y=0):orI l=0:=by
 induction l with
 |nil=>rfl
 |cons a r ih=>rw [orI,if_pos (hk a (by simp)),ih fun y hy=>hk y (by simp [hy])]
theorem cmp_Or {lo hi:Nat} {A:Option Addr} {n c:Nat} {l:List Int} {w:World}(h:Reads w lo hi 1 A n (ints l)) :
  Calls Tryz.prog 168 #[.slice A n c] w fun e w'=>e=.returned (.int .i64 (orI l))∧w=w':=by
 have hn:=h.len
 have Hl:=hide (show l.length=n by have:=h.length;rw [zdN] at this;omega)
 go_enter Tryz.func168,Tryz.ntmps168
 go_wp2
 go_loop [8] (fun i=>∃ k:Nat,k≤n∧i=.int .i64 k∧Hid (∀ y∈l.take k,y=0)) (fun i=>n - (intOf i).toNat)
 case atStart=>exact⟨0,Nat.zero_le _,rfl,hide (by simp)⟩
 case round =>
  obtain⟨k,hk,rfl,hz⟩:=hrel
  by_cases hlt:k<n
  ·obtain⟨ad,x,rfl,_,_,hx,hc⟩:=h.int hlt
   by_cases h0:x=0
   ·have hb:((x:Int) != 0)=false:=by simp [h0]
    have H0:=hide h0
    clear h0
    go_wp2
    go_round
    case rel=>exact⟨k+1,by omega,by go_num,hide (by rw [List.take_add_one,hx.out];intro y hy;simp at hy;rcases hy with hy|hy;exact hz.out y hy;rw [hy,H0.out])⟩
    case measure=>simp [intOf];omega
   ·have hb:((x:Int) != 0)=true:=by simp [h0]
    go_wp2
    go_ret
    exact⟨zE (orI_stop hx.out hz.out h0).symm,rfl⟩
  ·obtain rfl:k=n:=by omega
   go_wp2
   go_ret
   have:=hz.out
   rw [List.take_of_length_le (by have:=Hl.out;omega)] at this
   exact⟨zE (orI_end this).symm,rfl⟩
def cmpE (a b:Edg):Int:=orI [cmpI a.fr b.fr,cmpI a.le b.le,cmpI a.ta b.ta]
def ltE (a b:Edg):Bool:=if a.fr=b.fr then if a.le=b.le then decide (a.ta<b.ta) else decide (a.le<b.le) else decide (a.fr<b.fr)
theorem cmpE_lt (a b:Edg):cmpE a b<0↔ltE a b=true:=by
 have hc:∀ x y:Int,(cmpI x y=0↔x=y)∧(cmpI x y<0↔x<y):=fun x y=>by unfold cmpI;constructor<;>(repeat' split)<;>omega
 have h1:=hc a.fr b.fr
 have h2:=hc a.le b.le
 have h3:=hc a.ta b.ta
 have hv:cmpE a b=if cmpI a.fr b.fr=0 then if cmpI a.le b.le=0 then if cmpI a.ta b.ta=0 then 0 else cmpI a.ta b.ta else cmpI a.le b.le else cmpI a.fr b.fr:=rfl
 rw [hv,ltE]
 by_cases e1:a.fr=b.fr
 ·rw [if_pos (h1.1.2 e1),if_pos e1]
  by_cases e2:a.le=b.le
  ·rw [if_pos (h2.1.2 e2),if_pos e2]
   by_cases e3:cmpI a.ta b.ta=0
   ·rw [if_pos e3];have:=h3.1.1 e3;simp;omega
   ·rw [if_neg e3,h3.2];simp
  ·rw [if_neg (fun h=>e2 (h2.1.1 h)),if_neg e2,h2.2];simp
 ·rw [if_neg (fun h=>e1 (h1.1.1 h)),if_neg e1,h1.2];simp
theorem reads_lit {w w':World} {cs:Array Value} {t:TypeId} (n:Nat) (l:List Int)(hc:cs.toList=ints l)(hl:l.length=n)(hn:n≤1000)(h:Ext (w.alloc (.cells cs t)) w'):Reads w' 0 w'.heap.size 1 (some ⟨w.heap.size,0,none⟩) n (ints l):=by
 have hb:=zbu h
 refine⟨by rw [zdN];omega,by omega,fun _=>⟨_,rfl,Nat.zero_le _,hb.lt,fun j u hu=>?_⟩⟩
 rw [zO,Nat.zero_add,hb.cell,← Array.getElem?_toList,hc]
 exact hu
theorem zcu {a b:Edg} {w:World} :
  Calls Tryz.prog 104 #[.agg #[.int .i64 a.fr,.int .i64 a.le,.int .i64 a.ta],.agg #[.int .i64 b.fr,.int .i64 b.le,.int .i64 b.ta]] w fun e w'=>e=.returned (.int .i64 (cmpE a b))∧Ext w w':=by
 go_enter Tryz.func104,Tryz.ntmps104
 go_wp2_with fail
 obtain⟨W,hW⟩:∃ W:World,W=(w.alloc (.cells #[Value.int .i64 a.fr,.int .i64 a.le,.int .i64 a.ta] 126)).alloc (.cells #[Value.int .i64 b.fr,.int .i64 b.le,.int .i64 b.ta] 126):=⟨_,rfl⟩
 have hx:Ext w W:=by rw [hW];exact ((Ext.refl _).alloc _).alloc _
 have h2:=zR (show Ext ((w.alloc (.cells #[Value.int .i64 a.fr,.int .i64 a.le,.int .i64 a.ta] 126)).alloc (.cells #[Value.int .i64 b.fr,.int .i64 b.le,.int .i64 b.ta] 126)) W by rw [hW];exact Ext.refl _)
 have e0:∀ X,Ext W X→∀ j,X.cell? ⟨w.heap.size,j,none⟩=#[Value.int .i64 a.fr,.int .i64 a.le,.int .i64 a.ta][j]?:=fun X hX=>(h2.1.ext hX).cell
 have e1:∀ X,Ext W X→∀ j,X.cell? ⟨w.heap.size+1,j,none⟩=#[Value.int .i64 b.fr,.int .i64 b.le,.int .i64 b.ta][j]?:=fun X hX=>(h2.2.ext hX).cell
 rw [← hW]
 have hr:=Ext.refl W
 clear hW h2
 go_region_held3 (fun X=>Ext W X) (first|assumption|(refine Ext.drew ?_;assumption)|(refine Ext.alloc ?_ _;assumption)|(refine Ext.drew ?_;refine Ext.alloc ?_ _;assumption)|(refine Ext.trans ?_ (by assumption);assumption)) (first|(go_at_call 169;refine (cmp_Compare _ _ _).mono ?_;rintro e w' ⟨rfl,rfl⟩)|(go_at_call 168;refine (cmp_Or (reads_lit 3 [cmpI a.fr b.fr,cmpI a.le b.le,cmpI a.ta b.ta] rfl rfl (by omega) ((Ext.refl _).drew))).mono ?_;rintro e w' ⟨rfl,rfl⟩))
 all_goals (go_wp2_with fail;go_ret;exact⟨rfl,hx.trans (by first|assumption|(refine Ext.drew ?_;assumption)|(refine Ext.alloc ?_ _;assumption)|(refine Ext.drew ?_;refine Ext.alloc ?_ _;assumption))⟩)
end Go.Proofs.YtndhahednhnnbaaGreatDoor
