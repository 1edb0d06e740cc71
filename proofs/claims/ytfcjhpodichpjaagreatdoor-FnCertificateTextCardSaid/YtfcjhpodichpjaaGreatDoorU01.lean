/- Plain lemmas -/
import Derived.WalkKit
import Derived.WalkSpells
import Derived.WalkLawsBesides
import Derived.BigQuiet
import Derived.Deep.QuietTactic
import Derived.Deep.RegionWith
import Derived.Deep.RegionHeld3
import Derived.Deep.AppendLies
import Derived.Deep.Draws
import Derived.Laws.OwnMore
import Derived.Laws.BitsAllLaws
import Derived.Laws.BitsLemmas
import Derived.Maps.AppendAt
import Derived.Test.YtfcjhpodichpjaaGreatDoorRows
import Derived.OrdersHeld
import Derived.ProofKit
import Derived.Deep.Slices
import Derived.Deep.Fields
import Derived.ChangeSame
import Derived.ChangeArms
import Derived.Lib.SmallJoins
import Derived.OpenShut
import Derived.ShutString
import Derived.ChangeOld
import Derived.Shelf.Strings.Split
import Derived.Shelf.Strconv.AtoiAll
import Derived.Lib.ItoaNum
import Derived.Lib.TrailingZeros
import Derived.Shelf.Spec.TrailingZeros
import Derived.Lib.Split
import Derived.Lib.IndexBytes
import Derived.IntWalk
set_option maxHeartbeats 4000000
set_option maxRecDepth 100000
namespace Go.Proofs.YtfcjhpodichpjaaGreatDoor
open Go Go.RowKit
theorem za {p:Prop}(h:p):Hid p:=h
structure Bx (p:Prop):Prop where
 out:p
theorem pT {A B:Prop}(h:B) (k:Bx B→A:=by
 intro h0
 try simp only [Act.put,List.setIfInBounds_toArray,List.set_cons_zero,List.set_cons_succ]
 exact h0.out):A:=k ⟨h⟩
theorem zgt (a:Addr) (n:Nat):(a.add n).block=a.block:=by unfold Addr.add;split<;>rfl
theorem addr_zero (a:Addr):a.add 0=a:=by simp [Addr.add]
theorem zH (g o n:Nat):(⟨g,o,none⟩:Addr).add n=⟨g,o+n,none⟩:=by unfold Addr.add;split<;>simp_all
structure Frm (S:Nat→Prop) (w w':World):Prop where
 os:w'.os=w.os
 tape:w'.tape=w.tape
 output:w'.output=w.output
 size:w.heap.size≤w'.heap.size
 block:∀ k,k<w.heap.size→¬ S k→w'.heap[k]?=w.heap[k]?
def Ext (w w':World):Prop:=Frm (fun _=>False) w w'
theorem Ext.refl (w:World):Ext w w:=⟨rfl,rfl,rfl,Nat.le_refl _,fun _ _ _=>rfl⟩
theorem Ext.trans {a b c:World}(h:Ext a b) (k:Ext b c):Ext a c:=
 ⟨k.os.trans h.os,k.tape.trans h.tape,k.output.trans h.output,Nat.le_trans h.size k.size,fun i hi hn=>(k.block i (Nat.lt_of_lt_of_le hi h.size) hn).trans (h.block i hi hn)⟩
theorem Ext.drew {a w:World}(h:Ext a w):Ext a w.drew:=⟨h.os,h.tape,h.output,h.size,h.block⟩
theorem Ext.drewN {a w:World}(h:Ext a w) (n:Nat):Ext a (w.drewN n):=⟨h.os,h.tape,h.output,h.size,h.block⟩
theorem Ext.alloc {a w:World}(h:Ext a w) (o:Obj):Ext a (w.alloc o):=
 h.trans ⟨rfl,rfl,rfl,by simp,fun k hk _=>Below.heap_alloc _ _ _ hk⟩
theorem Ext.setCell {a w:World}(h:Ext a w) {p:Addr}(hp:a.heap.size≤p.block) (u:Value):Ext a (w.setCell p u):=
 ⟨h.os,h.tape,h.output,by simpa [World.setCell] using h.size,fun k hk hn=>(Below.heap_setCell _ _ _ _ (by omega)).trans (h.block k hk hn)⟩
theorem Ext.grown {a w w':World} {row:Option Nat}(h:Ext a w)(hg:w.grownBy w' row)(hr:∀ k,row=some k→a.heap.size≤k):Ext a w':=
 ⟨hg.os.trans h.os,hg.tape.trans h.tape,hg.output.trans h.output,Nat.le_trans h.size hg.size,
  fun k hk hn=>(hg.block k (Nat.lt_of_lt_of_le hk h.size) (fun e=>by have:=hr k e.symm;omega)).trans (h.block k hk hn)⟩
theorem Ext.of_below {w w':World}(h:Below w.heap.size w w'):Ext w w':=⟨h.os,h.tape,h.output,h.size,fun k hk _=>h.block k hk⟩
theorem Ext.heap {w w':World}(h:Ext w w') {k:Nat}(hk:k<w.heap.size):w'.heap[k]?=w.heap[k]?:=h.block k hk id
theorem Ext.cell {w w':World}(h:Ext w w') {p:Addr}(hp:p.block<w.heap.size):w'.cell? p=w.cell? p:=World.cell?_of_block (w:=w) (h.heap hp)
theorem Ext.cell_some {w w':World}(h:Ext w w') {p:Addr} {v:Value}(hv:w.cell? p=some v):w'.cell? p=some v:=
 (h.cell (World.block_lt_of_cell? w p hv)).trans hv
def Blk (w:World) (g:Nat) (t:TypeId) (cs:Array Value):Prop:=w.heap[g]?=some (.cells cs t (0,0))
section
variable {w w':World} {g:Nat} {t:TypeId} {cs:Array Value}
theorem Blk.lt (h:Blk w g t cs):g<w.heap.size:=by
 rcases Nat.lt_or_ge g w.heap.size with hlt|hge
 ·exact hlt
 ·unfold Blk at h;rw [Array.getElem?_eq_none hge] at h;cases h
theorem Blk.cell (h:Blk w g t cs) (i:Nat):w.cell? ⟨g,i,none⟩=cs[i]?:=cell_of_row w g i cs t (0,0) h
theorem Blk.frozen (h:Blk w g t cs) (i:Nat):w.frozen? ⟨g,i,none⟩=false:=by
 unfold Blk at h
 simp [World.frozen?,h]
theorem Blk.new (w:World) (t:TypeId) (cs:Array Value):Blk (w.alloc (.cells cs t)) w.heap.size t cs:=heap_alloc_new w _
theorem Blk.ext (h:Blk w g t cs)(hb:Ext w w'):Blk w' g t cs:=(hb.heap h.lt).trans h
theorem Blk.cells (h:Blk w g t cs):∀ W,Ext w W→∀ i,W.cell? ⟨g,i,none⟩=cs[i]?:=fun _ hW=>(h.ext hW).cell
theorem Blk.frm {S:Nat→Prop}(h:Blk w g t cs)(hb:Frm S w w')(hg:¬ S g):Blk w' g t cs:=(hb.block g h.lt hg).trans h
theorem Blk.set_ (h:Blk w g t cs) (i:Nat) (u:Value):Blk (w.setCell ⟨g,i,none⟩ u) g t (cs.setIfInBounds i u):=by
 unfold Blk at h ⊢
 simp [World.setCell,Array.getElem?_modify,h]
end
theorem zav {w w':World} {cs:Array Value} {t:TypeId}(h:Ext (w.alloc (.cells cs t)) w'):Blk w' w.heap.size t cs:=(Blk.new w t cs).ext h
theorem zR {w w':World} {cs ds:Array Value} {t u:TypeId}(h:Ext ((w.alloc (.cells cs t)).alloc (.cells ds u)) w'):Blk w' w.heap.size t cs∧Blk w' (w.heap.size+1) u ds:=by
 refine⟨zav (((Ext.refl _).alloc _).trans h),?_⟩
 have:=zav h
 simpa using this
theorem zV {w w':World} {cs ds es:Array Value} {t u v:TypeId}(h:Ext (((w.alloc (.cells cs t)).alloc (.cells ds u)).alloc (.cells es v)) w'):Blk w' w.heap.size t cs∧Blk w' (w.heap.size+1) u ds∧Blk w' (w.heap.size+1+1) v es:=by
 have h2:=zR (((Ext.refl _).alloc _).trans h)
 refine⟨h2.1,h2.2,?_⟩
 have:=zav h
 simpa using this
theorem Blk.far {w:World} {g:Nat} {t:TypeId} {cs:Array Value}(h:Blk w g t cs) {p:Addr}(hp:g≠p.block) (u:Value):Blk (w.setCell p u) g t cs:=(Below.heap_setCell w p u g hp).trans h
theorem zct {w w':World} {cs:Array Value} {t:TypeId}(h:Ext (w.alloc (.cells cs t)) w'):∀ j,w'.cell? ⟨w.heap.size,j,none⟩=cs[j]?:=(zav h).cell
def Reads (w:World) (lo hi size:Nat) (A:Option Addr) (n:Nat) (xs:List Value):Prop:=
 xs.length=n*size∧n≤9223372036854775807∧(0<n→∃ ad,A=some ad∧lo≤ad.block∧ad.block<hi∧∀ j u,xs[j]?=some u→w.cell? (ad.add j)=some u)
section
variable {w w':World} {lo hi size n:Nat} {A:Option Addr} {xs:List Value}
theorem Reads.nil:Reads w lo hi size A 0 []:=⟨by simp,by omega,fun h=>absurd h (by omega)⟩
theorem Reads.len (h:Reads w lo hi size A n xs):n≤9223372036854775807:=h.2.1
theorem Reads.length (h:Reads w lo hi size A n xs):xs.length=n*size:=h.1
theorem Reads.at_ {k:Nat}(h:Reads w lo hi size A n xs)(hk:k<n):∃ ad,A=some ad∧lo≤ad.block∧ad.block<hi∧∀ j u,xs[j]?=some u→w.cell? (ad.add j)=some u:=h.2.2 (by omega)
theorem Reads.one {k:Nat}(h:Reads w lo hi 1 A n xs)(hk:k<n):∃ ad u,A=some ad∧lo≤ad.block∧ad.block<hi∧Hid (xs[k]?=some u)∧w.cell? (ad.add k)=some u:=by
 obtain⟨ad,e,hl,hb,hc⟩:=h.2.2 (by omega)
 have hx:k<xs.length:=by have:=h.1;omega
 exact⟨ad,xs[k],e,hl,hb,List.getElem?_eq_getElem hx,hc k _ (List.getElem?_eq_getElem hx)⟩
theorem Reads.more {lo' hi':Nat}(h:Reads w lo hi size A n xs)(hL:lo'≤lo)(hH:hi≤hi'):Reads w lo' hi' size A n xs:=
 ⟨h.1,h.2.1,fun hn=>by
  obtain⟨ad,e,hl,hb,hc⟩:=h.2.2 hn
  exact⟨ad,e,by omega,by omega,hc⟩⟩
theorem Reads.ext (h:Reads w lo hi size A n xs)(hb:Ext w w'):Reads w' lo hi size A n xs:=
 ⟨h.1,h.2.1,fun hn=>by
  obtain⟨ad,e,hl,hi,hc⟩:=h.2.2 hn
  exact⟨ad,e,hl,hi,fun j u hu=>hb.cell_some (hc j u hu)⟩⟩
theorem Reads.frm {S:Nat→Prop}(h:Reads w lo hi size A n xs)(hb:Frm S w w')(hS:∀ k,lo≤k→k<hi→¬ S k):Reads w' lo hi size A n xs:=
 ⟨h.1,h.2.1,fun hn=>by
  obtain⟨ad,e,hl,hi,hc⟩:=h.2.2 hn
  refine⟨ad,e,hl,hi,fun j u hu=>?_⟩
  have hcell:=hc j u hu
  have hlt:=World.block_lt_of_cell? w _ hcell
  exact (World.cell?_of_block (w:=w) (hb.block _ hlt (by rw [zgt];exact hS _ hl hi))).trans hcell⟩
theorem Reads.of_own {base:Nat} {e:TypeId} {c:Nat}(h:w.ownsRow base e size (.slice A n c) n xs):Reads w base w.heap.size size A n xs:=by
 rcases h.2 with ⟨h',h0⟩|⟨g,cap,cur,hv,hb,hg,hnc,hcm,_,htake⟩
 ·subst h0
  have hx:xs=[]:=List.eq_nil_of_length_eq_zero (by simpa using h.1)
  subst hx
  exact Reads.nil
 ·have hA:A=some ⟨g,0,none⟩:=by injection hv
  subst hA
  exact⟨h.1,by unfold maxLen at hcm;omega,fun _=>⟨_,rfl,hb,(Array.getElem?_eq_some_iff.1 hg).1,h.cells (g:=g) rfl⟩⟩
end
theorem zI {P:Program} (wb w:World) {ops:Array Oper} {rest:List Oper} {o:Oper} {a:Act} {Q:Exit→Act→World→Prop}(hgd:o.guard=none) (s x:Operand) (t:TypeId)
  (ho:o.op=.call { callee:=.builtin .append,args:=#[s,x],argTypes:=#[t,t] })
  (e:TypeId) (z:Value) (size bytes:Nat) (ht:P.underlying t=some (.slice e)) (hi:(P.info? e).map (fun i=>(i.zero,i.size,i.bytes))=some (some z,size,bytes)) (hzs:z.cells.size=size) (hsz:0<size)
  (v:Value) (n:Nat) (xs:List Value) (us:Array Value) (e':TypeId) (hs:a.eval s=v) (hx:a.eval x=.slice (some ⟨w.heap.size,0,none⟩) 1 1)
  (zhL:Ext wb w) (zhJ:w.ownsRow wb.heap.size e size v n xs) (hus:us.size=size) (h1:∀ u∈us.toList,u.oneCell'=true)
  (h63:n+1≤maxLen) (hbytes:(n+1)*bytes≤140737488355328)
  (h:∀ v' w',Ext wb w'→w'.ownsRow wb.heap.size e size v' (n+1) (xs++us.toList)→w.grownBy w' v.ownBlock→(v'.ownBlock=v.ownBlock∨v'.ownBlock=some (w.heap.size+1))→wpList P ops Q rest (a.put o.dst v') w') :
  wpList P ops Q (o :: rest) a (w.alloc (.cells us e')):=by
 obtain⟨i,hi0,hz0,hz1,hz2⟩:=info_parts hi
 refine wpList_append_own_at (w.alloc (.cells us e')) hgd s x t ho wb.heap.size e i z size bytes ht hi0 hz0 hz1 hz2 hzs hsz v n xs hs (zhJ.alloc _) ⟨w.heap.size,0,none⟩ 1 1 us.toList hx (by simpa using hus) ?_ h1 h63 hbytes (by have:=zhL.size;simp;omega) ?_
 ·intro j u hu
  rw [zH,Nat.zero_add,(Blk.new w e' us).cell]
  simpa using hu
 ·intro v' w' hown' hg _ hat
  have hg':w.grownBy w' v.ownBlock:=⟨hg.os,hg.tape,hg.output,Nat.le_trans (by simp) hg.size,fun k hk hne=>(hg.block k (by simp;omega) hne).trans (Below.heap_alloc w _ k hk)⟩
  exact h v' w' (zhL.grown hg' (fun k hk=>(zhJ.lt k hk).1)) hown' hg' (by simpa using hat)
theorem zbT {P:Program} (wb w:World) {ops:Array Oper} {rest:List Oper} {o:Oper} {a:Act} {Q:Exit→Act→World→Prop}(hgd:o.guard=none) (l c:Operand) (t:TypeId)(ho:o.op=.makeSlice t l c)
  (e:TypeId) (z:Value) (size bytes:Nat) (ht:P.underlying t=some (.slice e)) (hi:(P.info? e).map (fun i=>(i.zero,i.size,i.bytes))=some (some z,size,bytes))
  (kl kc:IntKind) (n:Nat) (hl:a.eval l=.int kl (n:Int)) (hc:a.eval c=.int kc (n:Int)) (zhL:Ext wb w) (hbytes:n*bytes≤140737488355328) (h63:n≤maxLen)
  (h:∀ w',Ext wb w'→w'.ownsRow wb.heap.size e size (.slice (some ⟨w.heap.size,0,none⟩) n n) n (madeCells z.cells (n*size)).toList→Ext w w'→w.heap.size<w'.heap.size→wpList P ops Q rest (a.put o.dst (.slice (some ⟨w.heap.size,0,none⟩) n n)) w') :
  wpList P ops Q (o :: rest) a w:=by
 obtain⟨i,hi0,hz0,hz1,hz2⟩:=info_parts hi
 refine wpList_make_full w hgd l c t ho wb.heap.size e i z size ht hi0 hz0 hz1 kl kc n n n hl hc rfl rfl (by rw [hz2,Nat.mul_comm];omega) h63 zhL.size ?_
 intro w' zhJ hg
 refine h w' (zhL.grown hg (by simp)) zhJ ((Ext.refl _).grown hg (by simp)) ?_
 rcases zhJ.2 with ⟨h',_⟩|⟨g,cap,cur,h',_,hh,_⟩
 ·simp at h'
 ·have:w.heap.size=g:=by injection h' with h1;injection h1 with h1;injection h1
  subst this
  exact (Array.getElem?_eq_some_iff.1 hh).1
theorem zf {w:World} {base:Nat} {e:TypeId} {size:Nat} {v:Value} {n:Nat} {xs:List Value}(h:w.ownsRow base e size v n xs):∃ A c,v=.slice A n c:=by
 rcases h.2 with ⟨rfl,h0⟩|⟨g,cap,cur,rfl,_⟩
 ·exact⟨none,0,by rw [h0]⟩
 ·exact⟨_,_,rfl⟩
theorem zbv (n:Int):∀ u∈(#[Value.int .i64 n]:Array Value).toList,u.oneCell'=true:=by simp [Value.oneCell']
theorem cells_u8 (n:Int):∀ u∈(#[Value.int .u8 n]:Array Value).toList,u.oneCell'=true:=by simp [Value.oneCell']
theorem zat (A:Option Addr) (n c:Nat):∀ u∈(#[Value.slice A n c]:Array Value).toList,u.oneCell'=true:=by simp [Value.oneCell']
def ints (l:List Int):List Value:=l.map (Value.int .i64)
theorem zfA (l:List Int):(ints l).length=l.length:=by simp [ints]
def zas (l:List Bool):List Value:=l.map Value.bool
theorem bools_length (l:List Bool):(zas l).length=l.length:=by simp [zas]
theorem ints_get {l:List Int} {k:Nat} {u:Value}(h:(ints l)[k]?=some u):∃ n,l[k]?=some n∧u=.int .i64 n:=by
 simp only [ints,List.getElem?_map,Option.map_eq_some_iff] at h
 obtain⟨n,hn,rfl⟩:=h
 exact⟨n,hn,rfl⟩
theorem bools_get {l:List Bool} {k:Nat} {u:Value}(h:(zas l)[k]?=some u):∃ n,l[k]?=some n∧u=.bool n:=by
 simp only [zas,List.getElem?_map,Option.map_eq_some_iff] at h
 obtain⟨n,hn,rfl⟩:=h
 exact⟨n,hn,rfl⟩
theorem Reads.int {w:World} {lo hi n k:Nat} {A:Option Addr} {l:List Int}(h:Reads w lo hi 1 A n (ints l))(hk:k<n):∃ ad x,A=some ad∧lo≤ad.block∧ad.block<hi∧Hid (l[k]?=some x)∧w.cell? (ad.add k)=some (.int .i64 x):=by
 obtain⟨ad,u,e,hl,hb,hx,hc⟩:=h.one hk
 obtain⟨x,hx',rfl⟩:=ints_get hx.out
 exact⟨ad,x,e,hl,hb,hx',hc⟩
theorem Reads.bool {w:World} {lo hi n k:Nat} {A:Option Addr} {l:List Bool}(h:Reads w lo hi 1 A n (zas l))(hk:k<n):∃ ad x,A=some ad∧lo≤ad.block∧ad.block<hi∧Hid (l[k]?=some x)∧w.cell? (ad.add k)=some (.bool x):=by
 obtain⟨ad,u,e,hl,hb,hx,hc⟩:=h.one hk
 obtain⟨x,hx',rfl⟩:=bools_get hx.out
 exact⟨ad,x,e,hl,hb,hx',hc⟩
def zdx (w:World) (lo hi:Nat) (rows:List Value) (ls:List (List Int)):Prop:=
 rows.length=ls.length∧∀ (i:Nat) (row:Value) (l:List Int),rows[i]?=some row→ls[i]?=some l→∃ A c,row=.slice A l.length c∧Reads w lo hi 1 A l.length (ints l)
def zaY (w:World) (lo hi:Nat) (A:Option Addr) (n:Nat) (ls:List (List Int)):Prop:=
 n=ls.length∧∃ rows,Reads w lo hi 1 A n rows∧zdx w lo hi rows ls
section
variable {w w':World} {lo hi n k:Nat} {A:Option Addr} {ls:List (List Int)} {rows:List Value}
theorem zdx.ext (h:zdx w lo hi rows ls)(hb:Ext w w'):zdx w' lo hi rows ls:=
 ⟨h.1,fun i row l hr hl=>by
  obtain⟨A,c,e,hx⟩:=h.2 i row l hr hl
  exact⟨A,c,e,hx.ext hb⟩⟩
theorem zaY.ext (h:zaY w lo hi A n ls)(hb:Ext w w'):zaY w' lo hi A n ls:=by
 obtain⟨e,rows,hr,hx⟩:=h
 exact⟨e,rows,hr.ext hb,hx.ext hb⟩
theorem zdx.frm {S:Nat→Prop}(h:zdx w lo hi rows ls)(hb:Frm S w w')(hS:∀ k,lo≤k→k<hi→¬ S k):zdx w' lo hi rows ls:=
 ⟨h.1,fun i row l hr hl=>by
  obtain⟨A,c,e,hx⟩:=h.2 i row l hr hl
  exact⟨A,c,e,hx.frm hb hS⟩⟩
theorem zaY.frm {S:Nat→Prop}(h:zaY w lo hi A n ls)(hb:Frm S w w')(hS:∀ k,lo≤k→k<hi→¬ S k):zaY w' lo hi A n ls:=by
 obtain⟨e,rows,hr,hx⟩:=h
 exact⟨e,rows,hr.frm hb hS,hx.frm hb hS⟩
theorem zdx.more {lo' hi':Nat}(h:zdx w lo hi rows ls)(hL:lo'≤lo)(hH:hi≤hi'):zdx w lo' hi' rows ls:=
 ⟨h.1,fun i row l hr hl=>by
  obtain⟨A,c,e,hx⟩:=h.2 i row l hr hl
  exact⟨A,c,e,hx.more hL hH⟩⟩
theorem zaY.more {lo' hi':Nat}(h:zaY w lo hi A n ls)(hL:lo'≤lo)(hH:hi≤hi'):zaY w lo' hi' A n ls:=by
 obtain⟨e,rows,hr,hx⟩:=h
 exact⟨e,rows,hr.more hL hH,hx.more hL hH⟩
theorem zaY.len (h:zaY w lo hi A n ls):n≤9223372036854775807:=by
 obtain⟨_,rows,hr,_⟩:=h
 exact hr.len
theorem zaY.row (h:zaY w lo hi A n ls)(hk:k<n):∃ ad Ak ck l,A=some ad∧lo≤ad.block∧ad.block<hi∧Hid (ls[k]?=some l)∧w.cell? (ad.add k)=some (.slice Ak l.length ck)∧Reads w lo hi 1 Ak l.length (ints l):=by
 obtain⟨e,rows,hr,hx⟩:=h
 obtain⟨ad,u,eA,hl,hb,hu,hc⟩:=hr.one hk
 have hlt:k<ls.length:=by omega
 obtain⟨Ak,ck,rfl,hrk⟩:=hx.2 k u ls[k] hu.out (List.getElem?_eq_getElem hlt)
 exact⟨ad,Ak,ck,ls[k],eA,hl,hb,List.getElem?_eq_getElem hlt,hc,hrk⟩
end
section
variable {w w':World} {base base' size size' n n':Nat} {e e':TypeId} {v v':Value} {xs xs':List Value}
theorem ze (h:w.ownsRow base e size v n xs)(hb:Ext w w'):w'.ownsRow base e size v n xs:=by
 refine⟨h.1,?_⟩
 rcases h.2 with hn|⟨g,cap,cur,hv,hg,hh,r⟩
 ·exact .inl hn
 ·exact .inr ⟨g,cap,cur,hv,hg,(hb.heap (Array.getElem?_eq_some_iff.1 hh).1).trans hh,r⟩
theorem zd {S:Nat→Prop}(h:w.ownsRow base e size v n xs)(hb:Frm S w w')(hS:∀ b,v.ownBlock=some b→¬ S b):w'.ownsRow base e size v n xs:=by
 refine⟨h.1,?_⟩
 rcases h.2 with hn|⟨g,cap,cur,hv,hg,hh,r⟩
 ·exact .inl hn
 ·exact .inr ⟨g,cap,cur,hv,hg,(hb.block g (Array.getElem?_eq_some_iff.1 hh).1 (hS g (by rw [hv];rfl))).trans hh,r⟩
theorem zaN {S:Nat→Prop}(h:w.ownsRow base e size v n xs)(hb:Frm S w w')(hS:∀ b,base≤b→¬ S b):w'.ownsRow base e size v n xs:=zd h hb fun b hv=>hS b (h.lt b hv).1
theorem zl (h:w.ownsRow base e size v n xs)(hb:base'≤base):w.ownsRow base' e size v n xs:=by
 refine⟨h.1,?_⟩
 rcases h.2 with hn|⟨g,cap,cur,hv,hg,r⟩
 ·exact .inl hn
 ·exact .inr ⟨g,cap,cur,hv,by omega,r⟩
theorem zaq (h:w.ownsRow base e size v n xs)(h':w.ownsRow base' e' size' v' n' xs')(hne:e≠e') {b:Nat}(hb:v.ownBlock=some b):v'.ownBlock≠some b:=by
 rcases h.2 with ⟨rfl,_⟩|⟨g,cap,cur,rfl,_,hh,_⟩
 ·simp [Value.ownBlock] at hb
 ·rcases h'.2 with ⟨rfl,_⟩|⟨g',cap',cur',rfl,_,hh',_⟩
  ·simp [Value.ownBlock]
  ·have hb1:g=b:=by simpa [Value.ownBlock] using hb
   subst hb1
   intro he
   have hg:g'=g:=by simpa [Value.ownBlock] using he
   subst hg
   rw [hh] at hh'
   injection hh' with hh'
   injection hh' with _ ht
   exact hne ht
theorem zbJ {g n cap:Nat}(h:w.ownsRow base e size (.slice (some ⟨g,0,none⟩) n cap) n xs) (j:Nat)(hj:j<n*size):∃ u,w.cell? ⟨g,j,none⟩=some u:=by
 have hx:j<xs.length:=by rw [h.1];exact hj
 exact⟨xs[j],by rw [h.cellAt j hj,List.getElem?_eq_getElem hx]⟩
theorem zfG (h:w.ownsRow base e size v n xs):xs.length=n*size:=h.1
end
theorem Ext.toFrm {w w':World} {S:Nat→Prop}(h:Ext w w'):Frm S w w':=⟨h.os,h.tape,h.output,h.size,fun k hk _=>h.block k hk id⟩
theorem Frm.of_grown {w w':World} {row:Option Nat}(h:w.grownBy w' row):Frm (fun k=>row=some k) w w':=
 ⟨h.os,h.tape,h.output,h.size,fun k hk hn=>h.block k hk (fun e=>hn e.symm)⟩
theorem Frm.setCell (w:World) (g j:Nat) (u:Value):Frm (fun k=>k=g) w (w.setCell ⟨g,j,none⟩ u):=
 ⟨rfl,rfl,rfl,by simp [World.setCell],fun k _ hn=>Below.heap_setCell _ _ _ _ hn⟩
theorem Frm.trans {S:Nat→Prop} {a b c:World}(h:Frm S a b) (k:Frm S b c):Frm S a c:=
 ⟨k.os.trans h.os,k.tape.trans h.tape,k.output.trans h.output,Nat.le_trans h.size k.size,fun i hi hn=>(k.block i (Nat.lt_of_lt_of_le hi h.size) hn).trans (h.block i hi hn)⟩
theorem Frm.mono {S T:Nat→Prop} {a b:World}(h:Frm S a b)(hS:∀ k,k<a.heap.size→S k→T k):Frm T a b:=
 ⟨h.os,h.tape,h.output,h.size,fun k hk hn=>h.block k hk (fun hs=>hn (hS k hk hs))⟩
theorem Frm.refl (S:Nat→Prop) (w:World):Frm S w w:=⟨rfl,rfl,rfl,Nat.le_refl _,fun _ _ _=>rfl⟩
theorem Frm.cell {S:Nat→Prop} {a w:World}(h:Frm S a w) {p:Addr}(hp:S p.block) (u:Value):Frm S a (w.setCell p u):=
 ⟨h.os,h.tape,h.output,by simpa [World.setCell] using h.size,fun k hk hn=>(Below.heap_setCell _ _ _ _ (by rintro rfl;exact hn hp)).trans (h.block k hk hn)⟩
theorem Frm.ext {S:Nat→Prop} {a w w':World}(h:Frm S a w)(hb:Ext w w'):Frm S a w':=h.trans hb.toFrm
theorem Ext.frm {S:Nat→Prop} {a b c:World}(h:Ext a b) (k:Frm S b c)(hS:∀ k,k<a.heap.size→¬ S k):Ext a c:=
 ⟨k.os.trans h.os,k.tape.trans h.tape,k.output.trans h.output,Nat.le_trans h.size k.size,fun i hi hn=>(k.block i (Nat.lt_of_lt_of_le hi h.size) (hS i hi)).trans (h.block i hi hn)⟩
section
variable {α:Type} {l:List α} {p:α→Bool} {k:Nat} {x:α}
theorem zaL (h:l[k]?=some x)(hp:p x=false):l.all p=false:=
 List.all_eq_false.2 ⟨x,List.mem_of_getElem? h,by simp [hp]⟩
theorem zbU (h:l[k]?=some x)(hk:(l.take k).all p=true)(hp:p x=true):(l.take (k+1)).all p=true:=by
 rw [List.take_add_one,h,List.all_append,hk]
 simp [hp]
theorem zdH (hk:l.length≤k)(h:(l.take k).all p=true):l.all p=true:=by
 rwa [List.take_of_length_le hk] at h
end
def Sm (n:Nat):Prop:=n<4294967296
theorem Sm.lt {n:Nat}(h:Sm n):n<4294967296:=h
theorem Sm.or {a b:Nat}(ha:Sm a)(hb:Sm b):Sm (a|||b):=Nat.or_lt_two_pow (n:=32) ha hb
theorem Sm.and_left {a:Nat} (b:Nat)(ha:Sm a):Sm (a&&&b):=Nat.lt_of_le_of_lt Nat.and_le_left ha
theorem Sm.bit {n:Nat}(h:n<32):Sm (2 ^ n):=Nat.pow_lt_pow_right (by omega) h
theorem zch (a:Nat)(ha:a<9223372036854775808):(BitVec.ofInt 64 (a:Int)).toNat=a:=by
 rw [BitVec.ofInt_natCast,BitVec.toNat_ofNat];exact Nat.mod_eq_of_lt (by omega)
theorem zdf {a b:Nat}(ha:Sm a)(hb:Sm b):bits .and .i64 (a:Int) (b:Int)=((a&&&b:Nat):Int):=by
 have hx:=(Sm.and_left b ha).lt
 have:=ha.lt;have:=hb.lt
 show IntKind.i64.wrap ((BitVec.ofInt 64 (a:Int)&&&BitVec.ofInt 64 (b:Int)).toNat:Int)=_
 rw [BitVec.toNat_and,zch a (by omega),zch b (by omega),IntKind.wrap_i64]
 omega
theorem zcr {a b:Nat}(ha:Sm a)(hb:Sm b):bits .or .i64 (a:Int) (b:Int)=((a|||b:Nat):Int):=by
 have hx:=(Sm.or ha hb).lt
 have:=ha.lt;have:=hb.lt
 show IntKind.i64.wrap ((BitVec.ofInt 64 (a:Int)|||BitVec.ofInt 64 (b:Int)).toNat:Int)=_
 rw [BitVec.toNat_or,zch a (by omega),zch b (by omega),IntKind.wrap_i64]
 omega
theorem and_one {x:Nat}(hx:Sm x):bits .and .i64 (x:Int) 1=((x % 2:Nat):Int):=by
 have:=zdf hx (b:=1) (by unfold Sm;omega)
 rw [nat_mask1] at this
 exact this
theorem div_pow (x n:Nat):(x:Int) / 2 ^ n=((x / 2 ^ n:Nat):Int):=by simp
theorem zhE {x n:Nat}(hx:Sm x)(hn:32≤n):x.testBit n=false:=
 Nat.testBit_lt_two_pow (Nat.lt_of_lt_of_le hx.lt (by rw [show (4294967296:Nat)=2 ^ 32 from rfl];exact Nat.pow_le_pow_right (by omega) hn))
theorem zfL {x:Nat}(hx:Sm x) (n:Nat):(bits .and .i64 ((x:Int) / 2 ^ min n 64) 1==1)=x.testBit n:=by
 rw [div_pow,and_one (Nat.lt_of_le_of_lt (Nat.div_le_self _ _) hx)]
 by_cases hn:n≤64
 ·rw [Nat.min_eq_left hn,Nat.testBit_eq_decide_div_mod_eq]
  rw [Bool.eq_iff_iff]
  simp only [beq_iff_eq,decide_eq_true_eq]
  omega
 ·rw [Nat.min_eq_right (by omega),zhE hx (by omega)]
  have:x / 2 ^ 64=0:=Nat.div_eq_of_lt (Nat.lt_trans hx.lt (by decide))
  rw [this];decide
def hasB (s:Nat) (n:Int):Bool:=decide (0≤n)&&s.testBit n.toNat
def letters (a k:Nat):List Nat:=(List.range k).filter fun l=>a.testBit l
theorem zbW (a k:Nat):letters a (k+1)=letters a k++if a.testBit k then [k] else []:=by
 unfold letters
 rw [List.range_succ,List.filter_append]
 cases h:a.testBit k<;>simp [h]
theorem zq (a k:Nat):(letters a k).length≤k:=by
 unfold letters
 have:=List.length_filter_le (fun l=>a.testBit l) (List.range k)
 simpa using this
def zaK (l:List Nat):List Value:=l.map fun n:Nat=>Value.int .i64 (n:Int)
theorem zaf (a:Int) (w:World) :
  Calls Tryz.prog 54 #[.int .i64 a] w fun e w'=>e=.returned (.bool (decide (0≤a∧a≤63)))∧w=w':=by
 by_cases h0:0≤a
 ·go_enter Tryz.func54,Tryz.ntmps54
  go_wp2
  go_ret
  exact⟨by simp [h0],rfl⟩
 ·go_enter Tryz.func54,Tryz.ntmps54
  go_wp2
  go_ret
  exact⟨by simp;omega,rfl⟩
theorem zC (a:Int) (w:World) :
  Calls Tryz.prog 59 #[.int .i64 a] w fun e w'=>e=.returned (.bool (decide (0≤a∧a≤63)))∧w=w':=by
 by_cases h0:0≤a
 ·go_enter Tryz.func59,Tryz.ntmps59
  go_wp2
  go_ret
  exact⟨by simp [h0],rfl⟩
 ·go_enter Tryz.func59,Tryz.ntmps59
  go_wp2
  go_ret
  exact⟨by simp;omega,rfl⟩
theorem zaP (s:ByteArray) (i:Nat)(h:i<s.size):(s[i].toNat:Int)<256:=by
 have:=s[i].toNat_lt
 omega
def ltr (b:Int):Int:=if b - 97<0∨6≤b - 97 then -1 else b - 97
theorem zm {a b:Bool}(h:a=b):Ending.returned (.bool a)=.returned (.bool b):=by rw [h]
theorem zan {k:IntKind} {a b:Int}(h:a=b):Ending.returned (.int k a)=.returned (.int k b):=by rw [h]
theorem zbI (s:ByteArray) (i:Nat)(hi:i<s.size) (w:World) :
  Calls Tryz.prog 110 #[.string s,.int .i64 i] w fun e w'=>e=.returned (.int .i64 (ltr s[i].toNat))∧w=w':=by
 have hb:=zaP s i hi
 by_cases h0:(s[i].toNat:Int) - 97<0
 ·go_enter Tryz.func110,Tryz.ntmps110
  go_wp2
  go_ret
  exact⟨zan (by rw [ltr,if_pos (Or.inl h0)]),rfl⟩
 ·by_cases h1:6≤(s[i].toNat:Int) - 97
  ·go_enter Tryz.func110,Tryz.ntmps110
   go_wp2
   go_ret
   exact⟨zan (by rw [ltr,if_pos (Or.inr h1)]),rfl⟩
  ·go_enter Tryz.func110,Tryz.ntmps110
   go_wp2
   go_ret
   exact⟨zan (by rw [ltr,if_neg (by omega)]),rfl⟩
theorem zaI (s:ByteArray) (i:Nat)(hi:i<s.size) (w:World) :
  Calls Tryz.prog 62 #[.string s,.int .i64 i] w fun e w'=>e=.returned (.int .i64 (s[i].toNat - 97))∧w=w':=by
 have hb:=zaP s i hi
 go_enter Tryz.func62,Tryz.ntmps62
 go_wp2
 go_ret
 exact⟨rfl,rfl⟩
theorem zaa (s n:Nat)(hs:Sm s) (w:World)(hn:n<9223372036854775808) :
  Calls Tryz.prog 112 #[.int .i64 s,.int .i64 n] w fun e w'=>e=.returned (.bool (s.testBit n))∧w=w':=by
 have hu:IntKind.u64.wrap (n:Int)=n:=by rw [IntKind.wrap_u64];omega
 have hb:=zfL hs n
 have Hb:=za hb
 clear hb
 go_enter Tryz.func112,Tryz.ntmps112
 go_wp2
 go_ret
 exact⟨by simp [Hb.out],rfl⟩
theorem zha (s:Nat) (n:Int)(hs:Sm s) (w:World) :
  Calls Tryz.prog 84 #[.int .i64 s,.int .i64 n] w fun e w'=>e=.returned (.bool (hasB s n))∧w=w':=by
 have hb:=zfL hs n.toNat
 have Hb:=za hb
 clear hb
 by_cases h0:0≤n
 ·go_enter Tryz.func84,Tryz.ntmps84
  go_wp2
  go_ret
  exact⟨by simp [Hb.out,hasB,h0],rfl⟩
 ·go_enter Tryz.func84,Tryz.ntmps84
  go_wp2
  go_ret
  exact⟨by simp [hasB];omega,rfl⟩
theorem zac:(Tryz.prog.info? 3).map (fun i=>(i.zero,i.size,i.bytes))=some (some (.int .i64 0),1,8):=by kernel_rfl
def zbq (w:World) (xs:List Nat) (e:Ending) (w':World):Prop:=
 ∃ A c,e=.returned (.slice A xs.length c)∧w'.ownsRow w.heap.size 3 1 (.slice A xs.length c) xs.length (zaK xs)∧Ext w w'
theorem yU01a2 {P:Prop}(h:P:=by
 go_roundw
 case rel=>exact⟨k+1,by omega,by go_num,by rw [Hls.out];first|simpa [zaK] using zhS|simpa using zhJ,by assumption⟩
 case measure=>simp [intOf];omega
 ):P:=h
theorem zdy (a:Nat)(hs:Sm a) (w:World) :
  Calls Tryz.prog 55 #[.int .i64 a] w (zbq w (letters a 6)):=by
 go_enter Tryz.func55,Tryz.ntmps55
 go_wp2
 go_loopw [3,5] (fun v i wr=>∃ k:Nat,k≤6∧i=.int .i64 k∧wr.ownsRow w.heap.size 3 1 v (letters a k).length (zaK (letters a k))∧Ext w wr)
  (fun _ i _=>6 - (intOf i).toNat)
 case atStart=>exact⟨0,Nat.zero_le _,rfl,World.ownsRow_nil _ _ _ _,Ext.refl _⟩
 case round =>
  obtain⟨k,hk,rfl,zhJ,zhL⟩:=hrel
  have hl:=zq a k
  by_cases hlt:k<6
  ·cases hb:a.testBit k
   all_goals
    have Hb:hasB a k=a.testBit k:=by simp [hasB]
    rw [hb] at Hb
    have hls:=zbW a k
    rw [hb] at hls
    have Hls:=za hls
    clear hls hb
    go_wp2_with (first
     |(go_at_call 84;refine (zha a k hs _).mono ?_;rintro e w' ⟨rfl,rfl⟩)
     |(at_builtin;refine zI w wr rfl (.tmp 11) (.tmp 13) _ rfl 3 _ 1 8 Tryz.underlying74 zac rfl (by decide) u3 _ _ _ _ rfl rfl zhL zhJ rfl (zbv _) (by unfold maxLen;omega) (by omega) ?_;intro v' w1 hext1 zhS hg1 hat1))
    exact yU01a2
  ·obtain rfl:k=6:=by omega
   obtain⟨A,c,rfl⟩:=zf zhJ
   go_wp2
   go_ret
   exact⟨_,_,rfl,zhJ,zhL⟩
def tot (ls:List (List Int)):Nat:=(ls.map List.length).sum
theorem zhF {ls:List (List Int)} {k:Nat} {l:List Int}(h:ls[k]?=some l):tot (ls.take (k+1))=tot (ls.take k)+l.length:=by
 rw [List.take_add_one,h]
 simp [tot]
theorem tot_append (a b:List (List Int)):tot (a++b)=tot a+tot b:=by simp [tot]
theorem tot_take_le (ls:List (List Int)) (k:Nat):tot (ls.take k)≤tot ls:=by
 have h:=tot_append (ls.take k) (ls.drop k)
 rw [List.take_append_drop] at h
 omega
structure Aut where
 al:Int
 next:List (List Int)
 acc:List Bool
def zM (w:World) (lo hi:Nat) (A:Option Addr) (n:Nat) (A':Option Addr) (n':Nat) (a:Aut):Prop:=
 zaY w lo hi A n a.next∧n'=a.acc.length∧Reads w lo hi 1 A' n' (zas a.acc)
section
variable {w w':World} {lo hi n n':Nat} {A A':Option Addr} {a:Aut}
theorem zM.ext (h:zM w lo hi A n A' n' a)(hb:Ext w w'):zM w' lo hi A n A' n' a:=⟨h.1.ext hb,h.2.1,h.2.2.ext hb⟩
theorem zM.frm {S:Nat→Prop}(h:zM w lo hi A n A' n' a)(hb:Frm S w w')(hS:∀ k,lo≤k→k<hi→¬ S k):zM w' lo hi A n A' n' a:=⟨h.1.frm hb hS,h.2.1,h.2.2.frm hb hS⟩
theorem zM.more {lo' hi':Nat}(h:zM w lo hi A n A' n' a)(hL:lo'≤lo)(hH:hi≤hi'):zM w lo' hi' A n A' n' a:=⟨h.1.more hL hH,h.2.1,h.2.2.more hL hH⟩
theorem zM.n1 (h:zM w lo hi A n A' n' a):n=a.next.length:=h.1.1
theorem zM.n2 (h:zM w lo hi A n A' n' a):n'=a.acc.length:=h.2.1
end
def Aut.size (a:Aut):Nat:=a.next.length+tot a.next+a.acc.length
theorem zaG:(Tryz.prog.info? 4).map (fun i=>(i.zero,i.size,i.bytes))=some (some (.bool false),1,1):=by kernel_rfl
theorem zbj:(Tryz.prog.info? 74).map (fun i=>(i.zero,i.size,i.bytes))=some (some (.slice none 0 0),1,24):=by kernel_rfl
def zy (w:World) (base:Nat) (rows:List Value) (ls:List (List Int)):Prop:=
 rows.length=ls.length∧(∀ (i:Nat) (row:Value) (l:List Int),rows[i]?=some row→ls[i]?=some l→w.ownsRow base 3 1 row l.length (ints l)) ∧
  ∀ (i j:Nat) (ri rj:Value) (b:Nat),rows[i]?=some ri→rows[j]?=some rj→i≠j→ri.ownBlock=some b→rj.ownBlock≠some b
theorem zy.nil (w:World) (base:Nat):zy w base [] []:=⟨rfl,fun i row l h=>by simp at h,fun i j ri rj b h=>by simp at h⟩
theorem zy.ext {w w':World} {base:Nat} {rows:List Value} {ls:List (List Int)}(h:zy w base rows ls)(hb:Ext w w'):zy w' base rows ls:=
 ⟨h.1,fun i row l hr hl=>ze (h.2.1 i row l hr hl) hb,h.2.2⟩
theorem zy.row {w:World} {base:Nat} {rows:List Value} {ls:List (List Int)}(h:zy w base rows ls) {i:Nat} {row:Value}(hr:rows[i]?=some row):∃ l,ls[i]?=some l∧w.ownsRow base 3 1 row l.length (ints l):=by
 have hi:i<rows.length:=(List.getElem?_eq_some_iff.1 hr).1
 have hl:ls[i]?=some (ls[i]'(by rw [← h.1];exact hi)):=List.getElem?_eq_getElem _
 exact⟨_,hl,h.2.1 i row _ hr hl⟩
theorem zy.frm {S:Nat→Prop} {w w':World} {base:Nat} {rows:List Value} {ls:List (List Int)}(h:zy w base rows ls)(hb:Frm S w w')(hS:∀ (i:Nat) (row:Value) (b:Nat),rows[i]?=some row→row.ownBlock=some b→¬ S b):zy w' base rows ls:=
 ⟨h.1,fun i row l hr hl=>zd (h.2.1 i row l hr hl) hb (fun b hb=>hS i row b hr hb),h.2.2⟩
theorem zy.snoc {w w':World} {base:Nat} {rows:List Value} {ls:List (List Int)}(h:zy w base rows ls)(hb:Ext w w') {row:Value} {l:List Int}(hbase:base≤w.heap.size)(hrow:w'.ownsRow w.heap.size 3 1 row l.length (ints l)) :
  zy w' base (rows++[row]) (ls++[l]):=by
 have hlen:=h.1
 refine⟨by simp [hlen],fun i r m hr hm=>?_,fun i j ri rj b hri hrj hij hbi=>?_⟩
 ·rcases Nat.lt_trichotomy i rows.length with hi|hi|hi
  ·rw [List.getElem?_append_left hi] at hr
   rw [List.getElem?_append_left (by omega)] at hm
   exact ze (h.2.1 i r m hr hm) hb
  ·rw [List.getElem?_append_right (by omega),hi,Nat.sub_self] at hr
   rw [List.getElem?_append_right (by omega),hi,hlen,Nat.sub_self] at hm
   simp at hr hm
   subst hr;subst hm
   exact zl hrow hbase
  ·rw [List.getElem?_eq_none (by simp;omega)] at hr;cases hr
 ·have old:∀ (i:Nat) (r:Value) (b:Nat),i<rows.length→rows[i]?=some r→r.ownBlock=some b→b<w.heap.size:=fun i r b hi hr hb=>by
   obtain⟨m,_,ho⟩:=h.row hr
   exact (ho.lt b hb).2
  have new:∀ b,row.ownBlock=some b→w.heap.size≤b:=fun b hb=>(hrow.lt b hb).1
  have hi:i≤rows.length:=by have:=(List.getElem?_eq_some_iff.1 hri).1;simp at this;omega
  have hj:j≤rows.length:=by have:=(List.getElem?_eq_some_iff.1 hrj).1;simp at this;omega
  rcases Nat.lt_or_eq_of_le hi with hi|hi<;>rcases Nat.lt_or_eq_of_le hj with hj|hj
  ·rw [List.getElem?_append_left hi] at hri
   rw [List.getElem?_append_left hj] at hrj
   exact h.2.2 i j ri rj b hri hrj hij hbi
  ·rw [List.getElem?_append_left hi] at hri
   subst hj
   simp at hrj
   subst hrj
   intro hc
   have h1:=old i ri b hi hri hbi
   have h2:=new b hc
   omega
  ·rw [List.getElem?_append_left hj] at hrj
   subst hi
   simp at hri
   subst hri
   intro hc
   have h1:=old j rj b hj hrj hc
   have h2:=new b hbi
   omega
  ·omega
def zdm (w:World) (base:Nat) (v:Value) (ls:List (List Int)):Prop:=∃ rows,w.ownsRow base 74 1 v ls.length rows∧zy w base rows ls
theorem zdm.ext {w w':World} {base:Nat} {v:Value} {ls:List (List Int)}(h:zdm w base v ls)(hb:Ext w w'):zdm w' base v ls:=by
 obtain⟨rows,h1,h2⟩:=h
 exact⟨rows,ze h1 hb,h2.ext hb⟩
theorem zy.keep {S:Nat→Prop} {w w':World} {base:Nat} {rows:List Value} {ls:List (List Int)}(h:zy w base rows ls)(hb:Frm S w w')(hS:∀ b,base≤b→¬ S b):zy w' base rows ls:=
 ⟨h.1,fun i row l hr hl=>zaN (h.2.1 i row l hr hl) hb hS,h.2.2⟩
theorem zy.less {w:World} {base base':Nat} {rows:List Value} {ls:List (List Int)}(h:zy w base rows ls)(hb:base'≤base):zy w base' rows ls:=
 ⟨h.1,fun i row l hr hl=>zl (h.2.1 i row l hr hl) hb,h.2.2⟩
theorem zdm.keep {S:Nat→Prop} {w w':World} {base:Nat} {v:Value} {ls:List (List Int)}(h:zdm w base v ls)(hb:Frm S w w')(hS:∀ b,base≤b→¬ S b):zdm w' base v ls:=by
 obtain⟨rows,h1,h2⟩:=h
 exact⟨rows,zaN h1 hb hS,h2.keep hb hS⟩
theorem zdm.less {w:World} {base base':Nat} {v:Value} {ls:List (List Int)}(h:zdm w base v ls)(hb:base'≤base):zdm w base' v ls:=by
 obtain⟨rows,h1,h2⟩:=h
 exact⟨rows,zl h1 hb,h2.less hb⟩
theorem zdm.reads {w:World} {base:Nat} {A:Option Addr} {n c:Nat} {ls:List (List Int)}(h:zdm w base (.slice A n c) ls)(hn:n=ls.length):zaY w base w.heap.size A n ls:=by
 obtain⟨rows,h1,h2⟩:=h
 subst hn
 refine⟨rfl,rows,Reads.of_own h1,h2.1,fun i row l hr hl=>?_⟩
 have ho:=h2.2.1 i row l hr hl
 obtain⟨A',c',rfl⟩:=zf ho
 exact⟨A',c',rfl,Reads.of_own ho⟩
def zO (w:World) (base:Nat) (A:Option Addr) (n c:Nat) (A':Option Addr) (n' c':Nat) (a:Aut):Prop:=
 zdm w base (.slice A n c) a.next∧n=a.next.length∧w.ownsRow base 4 1 (.slice A' n' c') n' (zas a.acc)∧n'=a.acc.length
theorem zO.ext {w w':World} {base:Nat} {A:Option Addr} {n c:Nat} {A':Option Addr} {n' c':Nat} {a:Aut}(h:zO w base A n c A' n' c' a)(hb:Ext w w'):zO w' base A n c A' n' c' a:=
 ⟨h.1.ext hb,h.2.1,ze h.2.2.1 hb,h.2.2.2⟩
theorem zO.keep {S:Nat→Prop} {w w':World} {base:Nat} {A:Option Addr} {n c:Nat} {A':Option Addr} {n' c':Nat} {a:Aut}(h:zO w base A n c A' n' c' a)(hb:Frm S w w')(hS:∀ b,base≤b→¬ S b):zO w' base A n c A' n' c' a:=
 ⟨h.1.keep hb hS,h.2.1,zaN h.2.2.1 hb hS,h.2.2.2⟩
theorem zO.less {w:World} {base base':Nat} {A:Option Addr} {n c:Nat} {A':Option Addr} {n' c':Nat} {a:Aut}(h:zO w base A n c A' n' c' a)(hb:base'≤base):zO w base' A n c A' n' c' a:=
 ⟨h.1.less hb,h.2.1,zl h.2.2.1 hb,h.2.2.2⟩
theorem zO.reads {w:World} {base:Nat} {A:Option Addr} {n c:Nat} {A':Option Addr} {n' c':Nat} {a:Aut}(h:zO w base A n c A' n' c' a):zM w base w.heap.size A n A' n' a:=
 ⟨h.1.reads h.2.1,h.2.2.2,Reads.of_own h.2.2.1⟩
def RetAut (w:World) (a:Aut) (e:Ending) (w':World):Prop:=
 ∃ A n c A' n' c',e=.returned (.agg #[.int .i64 a.al,.slice A n c,.slice A' n' c'])∧zO w' w.heap.size A n c A' n' c' a∧Ext w w'
def zbr:Op→Bool
 |.move _ | .assign _ | .pick _ _ _ | .binOp _ _ _ _ _ | .unOp _ _ _ | .load _ _ | .fieldAddr _ _ _ | .field _ _ _ | .indexAddr _ _ _ | .index _ _ _ | .extract _ _ | .build _ _ | .slice _ _ _ _ _ | .convert _ _ _=>true
 |.call { callee:=.builtin .len,.. }=>true
 |.call { callee:=.builtin .cap,.. }=>true
 |_=>false
def okOrd (l:List Oper):List Nat→Array Bool→Bool
 |[],listed=>(Region.ready .any l.toArray listed).isEmpty
 |i :: rest,listed =>
  (match l[i]? with
   |some o=>if zbr o.op then Region.free .any l.toArray listed i&&(Region.ready .any l.toArray listed).contains i else Region.ready .any l.toArray listed==[i]
   |none=>false)&&okOrd l rest (listed.setIfInBounds i true)
def zdv (P:Program) (l:List Oper) (Q:Exit→Act→World→Prop) (S:World→Prop):List Nat→Act→World→Prop
 |[],a,w=>Q .normal a w
 |i :: rest,a,w=>match l[i]? with
  |some o=>if zbr o.op then ∃ v,YieldsIf P l.toArray S o v a∧S w∧zdv P l Q S rest (a.put o.dst v) w
   else wpOp P l.toArray Q i (fun a' w'=>S w'∧zdv P l Q S rest a' w') a w
  |none=>False
section
variable {P:Program} {l:List Oper} {Q:Exit→Act→World→Prop} {S:World→Prop}
theorem zfK (hs:Region.noSelect l.toArray=true)(hQ:∀ (c:List PanicEntry) (a:Act) (d:Tmp) (v:Value) (w:World),Q (.panic c) (a.put (some d) v) w→Q (.panic c) a w) :
  ∀ (ord:List Nat) (listed:Array Bool) (a:Act) (w:World),okOrd l ord listed=true→zdv P l Q S ord a w→wpAnyH P .any l.toArray Q S ord.length listed a w
 |[],listed,a,w,hok,h=>by
  simp only [okOrd,List.isEmpty_iff] at hok
  exact wpAnyH_done hok h 0
 |i :: rest,listed,a,w,hok,h=>by
  cases ho:l[i]? with
  |none=>simp [okOrd,ho] at hok
  |some o =>
   simp only [okOrd,ho,Bool.and_eq_true] at hok
   simp only [zdv,ho] at h
   by_cases hq:zbr o.op=true
   ·rw [if_pos hq] at hok h
    simp only [Bool.and_eq_true] at hok
    obtain⟨v,hy,hS,hr⟩:=h
    exact wpAnyH_take (by simpa using ho) hs hok.1.1 hok.1.2 (fun c a w h=>by cases hd:o.dst with|none=>rw [hd] at h;exact h|some d=>rw [hd] at h;exact hQ c a d v w h) hy hS (zfK hs hQ rest _ _ _ hok.2 hr)
   ·rw [if_neg hq] at hok h
    refine wpAnyH_all (rs:=[i]) (by simpa using hok.1) (by simp) fun j hj=>?_
    rw [List.mem_singleton.1 hj]
    exact wpOp_mono (fun a' w' h=>⟨h.1,zfK hs hQ rest _ _ _ hok.2 h.2⟩) h
theorem zbp {id:Nat} {a:Act} {w:World} (S:World→Prop) (ord:List Nat)(hm:P.follows .mixedOrders=true)(hlen:ord.length=l.length)(hs:Region.noSelect l.toArray=true)(hok:okOrd l ord (Array.replicate l.length false)=true)
  (hQ:∀ (c:List PanicEntry) (a:Act) (d:Tmp) (v:Value) (w:World),Q (.panic c) (a.put (some d) v) w→Q (.panic c) a w) (hS:S w.drew) (h:S w.drew→zdv P l Q S ord a w.drew):(Code.region id l.toArray true).wp P Q a w:=by
 refine wp_region_held (S:=S) hm ?_
 have:=zfK hs hQ ord _ a w.drew hok (h hS)
 rw [hlen] at this
 simpa using this
theorem zfJ {a:Act} {w:World}(h:Q .normal a w):zdv P l Q S [] a w:=h
theorem seq_read {i:Nat} {rest:List Nat} {o:Oper} {v:Value} {a:Act} {w:World}(ho:l[i]?=some o)(hq:zbr o.op=true)(hw:Region.wanted o (yielded l.toArray a.tmps)=true)
  (hy:∀ W,S W→(execOp a.eval o).run P W=.ok (.value v) W) (hS:S w) (h:zdv P l Q S rest (a.put o.dst v) w):zdv P l Q S (i :: rest) a w:=by
 simp only [zdv,ho,hq,if_true]
 exact⟨v,.inl ⟨hw,hy⟩,hS,h⟩
theorem seq_skip {i:Nat} {rest:List Nat} {o:Oper} {a:Act} {w:World}(ho:l[i]?=some o)(hw:Region.wanted o (yielded l.toArray a.tmps)=false)
  (hS:S w) (h:zdv P l Q S rest (a.put o.dst undef) w):zdv P l Q S (i :: rest) a w:=by
 simp only [zdv,ho]
 split
 ·exact⟨undef,.inr ⟨hw,rfl⟩,hS,h⟩
 ·unfold wpOp
  simp only [List.getElem?_toArray,ho,hw,Bool.false_eq_true,if_false]
  exact⟨hS,h⟩
theorem zdk {i:Nat} {rest:List Nat} {o:Oper} {a:Act} {w:World}
  (h:∀ K:Act→World→Prop,Shut (∀ a w,S w→(S w→zdv P l Q S rest a w)→K a w)→o.wp P a w K Q) (ho:l[i]?=some o:=by rfl) (hq:zbr o.op=false:=by rfl) (hw:Region.wanted o (yielded l.toArray a.tmps)=true:=by rfl):zdv P l Q S (i :: rest) a w:=by
 simp only [zdv,ho,hq]
 unfold wpOp
 simp only [List.getElem?_toArray,ho,hw,if_true]
 exact .inl (h _ fun a w hS hW=>⟨hS,hW hS⟩)
end
theorem sQ {A B:Prop}(h:B) (k:Bx B→A:=by
 intro h0
 repeat (first|(refine seq_skip rfl rfl (by assumption) ?_;simp only [Act.put,List.setIfInBounds_toArray,List.set_cons_zero,List.set_cons_succ])|(refine seq_read (v:=?_) rfl rfl rfl (fun X hX=>?_) (by assumption) ?_;rotate_left;(focus (go_simp<;>with_reducible rfl));simp only [Act.put,List.setIfInBounds_toArray,List.set_cons_zero,List.set_cons_succ]))
 exact h0.out):A:=k ⟨h⟩
theorem sR {P:Program} {l:List Oper} {Q:Exit→Act→World→Prop} {id:Nat} {a:Act} {w:World} (S:World→Prop) (ord:List Nat)(h:S w.drew→zdv P l Q S ord a w.drew)(hm:P.follows .mixedOrders=true:=by kernel_rfl)(hlen:ord.length=l.length:=by rfl)(hs:Region.noSelect l.toArray=true:=by kernel_rfl)(hok:okOrd l ord (Array.replicate l.length false)=true:=by kernel_rfl)
  (hQ:∀ (c:List PanicEntry) (a:Act) (d:Tmp) (v:Value) (w:World),Q (.panic c) (a.put (some d) v) w→Q (.panic c) a w:=by exact fun _ _ _ _ _ h=>h) (hS:S w.drew:=by first|assumption|exact (Ext.refl _).drew|(refine Ext.drew ?_;assumption)):(Code.region id l.toArray true).wp P Q a w:=
 zbp S ord hm hlen hs hok hQ hS h
structure Edg where
 fr:Int
 le:Int
 ta:Int
deriving DecidableEq
structure Sys where
 al:Int
 st:Int
 edges:List Edg
def zB:List Edg→List Value
 |[]=>[]
 |e :: r=>.int .i64 e.fr :: .int .i64 e.le :: .int .i64 e.ta :: zB r
theorem zaU (l:List Edg):(zB l).length=l.length*3:=by
 induction l with
 |nil=>rfl
 |cons e r ih=>simp only [zB,List.length_cons,ih];omega
theorem zbB (l m:List Edg):zB (l++m)=zB l++zB m:=by
 induction l with
 |nil=>rfl
 |cons e r ih=>simp [zB,ih]
theorem zcs {l:List Edg} {k:Nat} {e:Edg}(h:l[k]?=some e):(zB l)[k*3]?=some (.int .i64 e.fr)∧(zB l)[k*3+1]?=some (.int .i64 e.le)∧(zB l)[k*3+2]?=some (.int .i64 e.ta):=by
 induction l generalizing k with
 |nil=>simp at h
 |cons a r ih =>
  cases k with
  |zero=>simp at h;subst h;exact⟨rfl,rfl,rfl⟩
  |succ k =>
   have:=ih (k:=k) (by simpa using h)
   have e1:(k+1)*3=k*3+1+1+1:=by omega
   refine⟨?_,?_,?_⟩<;>rw [e1]<;>simp only [zB,List.getElem?_cons_succ]
   ·exact this.1
   ·exact this.2.1
   ·exact this.2.2
theorem zcJ {w:World} {ad:Addr} {v:Value}(h:w.cell? (ad.add 0)=some v):ad=⟨ad.block,ad.off,none⟩:=by
 rw [addr_zero] at h
 obtain⟨b,o,s⟩:=ad
 have hs:s=none:=World.cell?_spot h
 subst hs
 rfl
theorem Reads.edge {w:World} {lo hi n k:Nat} {A:Option Addr} {l:List Edg}(h:Reads w lo hi 3 A n (zB l))(hk:k<n) :
  ∃ b o e,A=some ⟨b,o,none⟩∧lo≤b∧b<hi∧Hid (l[k]?=some e)∧w.cell? ⟨b,o+k*3,none⟩=some (.int .i64 e.fr)∧w.cell? ⟨b,o+k*3+1,none⟩=some (.int .i64 e.le)∧w.cell? ⟨b,o+k*3+2,none⟩=some (.int .i64 e.ta):=by
 obtain⟨ad,eA,hl,hb,hc⟩:=h.at_ hk
 have hn:l.length=n:=by have:=h.length;rw [zaU] at this;omega
 have hx:l[k]?=some l[k]:=List.getElem?_eq_getElem (by omega)
 have hg:=zcs hx
 have h0:=hc _ _ hg.1
 have h1:=hc _ _ hg.2.1
 have h2:=hc _ _ hg.2.2
 have hz:=zcs (k:=0) (List.getElem?_eq_getElem (l:=l) (by omega))
 rw [Nat.zero_mul] at hz
 have hs:=zcJ (hc _ _ hz.1)
 rw [hs] at h0 h1 h2
 rw [zH] at h0 h1 h2
 exact⟨ad.block,ad.off,l[k],by rw [eA,hs],hl,hb,hx,h0,by rw [Nat.add_assoc];exact h1,by rw [Nat.add_assoc];exact h2⟩
theorem Reads.edge2 {w:World} {lo hi n j b o:Nat} {l:List Edg} {e:Edg}(h:Reads w lo hi 3 (some ⟨b,o,none⟩) n (zB l))(he:l[j]?=some e) :
  w.cell? ⟨b,o+j*3,none⟩=some (.int .i64 e.fr)∧w.cell? ⟨b,o+j*3+1,none⟩=some (.int .i64 e.le)∧w.cell? ⟨b,o+j*3+2,none⟩=some (.int .i64 e.ta):=by
 have hj:j<l.length:=(List.getElem?_eq_some_iff.1 he).1
 have hn:l.length=n:=by have:=h.length;rw [zaU] at this;omega
 obtain⟨ad,eA,_,_,hc⟩:=h.at_ (k:=j) (by omega)
 injection eA with eA
 subst eA
 have hg:=zcs he
 have h0:=hc _ _ hg.1
 have h1:=hc _ _ hg.2.1
 have h2:=hc _ _ hg.2.2
 rw [zH] at h0 h1 h2
 exact⟨h0,by rw [Nat.add_assoc];exact h1,by rw [Nat.add_assoc];exact h2⟩
def zah (w:World) (lo hi:Nat) (A:Option Addr) (n:Nat) (s:Sys):Prop:=n=s.edges.length∧Reads w lo hi 3 A n (zB s.edges)
section
variable {w w':World} {lo hi n:Nat} {A:Option Addr} {s:Sys}
theorem zah.ext (h:zah w lo hi A n s)(hb:Ext w w'):zah w' lo hi A n s:=⟨h.1,h.2.ext hb⟩
theorem zah.frm {S:Nat→Prop}(h:zah w lo hi A n s)(hb:Frm S w w')(hS:∀ k,lo≤k→k<hi→¬ S k):zah w' lo hi A n s:=⟨h.1,h.2.frm hb hS⟩
theorem zah.more {lo' hi':Nat}(h:zah w lo hi A n s)(hL:lo'≤lo)(hH:hi≤hi'):zah w lo' hi' A n s:=⟨h.1,h.2.more hL hH⟩
end
theorem zci:(Tryz.prog.info? 103).map (fun i=>(i.zero,i.size,i.bytes))=some (some (.agg #[.int .i64 0,.int .i64 0,.int .i64 0]),3,24):=by kernel_rfl
def OwnE (w:World) (base:Nat) (A:Option Addr) (n c:Nat) (l:List Edg):Prop:=n=l.length∧w.ownsRow base 103 3 (.slice A n c) n (zB l)
theorem OwnE.ext {w w':World} {base:Nat} {A:Option Addr} {n c:Nat} {l:List Edg}(h:OwnE w base A n c l)(hb:Ext w w'):OwnE w' base A n c l:=⟨h.1,ze h.2 hb⟩
def RetSys (w:World) (s:Sys) (e:Ending) (w':World):Prop:=
 ∃ A n c,e=.returned (.agg #[.int .i64 s.al,.int .i64 s.st,.slice A n c])∧OwnE w' w.heap.size A n c s.edges∧Ext w w'
instance:BEq Edg:=⟨fun a b=>decide (a.fr=b.fr)&&(decide (a.le=b.le)&&decide (a.ta=b.ta))⟩
theorem edg_beq (a b:Edg):(a==b)=(decide (a.fr=b.fr)&&(decide (a.le=b.le)&&decide (a.ta=b.ta))):=rfl
instance:LawfulBEq Edg where
 eq_of_beq {a b} h:=by
  rw [edg_beq] at h
  simp only [Bool.and_eq_true,decide_eq_true_eq] at h
  cases a;cases b;simp_all
 rfl {a}:=by rw [edg_beq];simp
def SLAt (w:World) (lo hi:Nat) (A:Option Addr) (n:Nat) (ss:List Sys):Prop:=
 n=ss.length∧∃ cells,Reads w lo hi 3 A n cells∧∀ (k:Nat) (s:Sys),ss[k]?=some s→∃ (B:Option Addr) (m c:Nat),cells[k*3]?=some (.int .i64 s.al)∧cells[k*3+1]?=some (.int .i64 s.st)∧cells[k*3+2]?=some (.slice B m c)∧zah w lo hi B m s
section
variable {w w':World} {lo hi n k:Nat} {A:Option Addr} {ss:List Sys}
theorem SLAt.ext (h:SLAt w lo hi A n ss)(hb:Ext w w'):SLAt w' lo hi A n ss:=by
 obtain⟨e,cells,hr,hx⟩:=h
 refine⟨e,cells,hr.ext hb,fun k s hs=>?_⟩
 obtain⟨B,m,c,h0,h1,h2,h3⟩:=hx k s hs
 exact⟨B,m,c,h0,h1,h2,h3.ext hb⟩
theorem SLAt.len (h:SLAt w lo hi A n ss):n≤9223372036854775807:=by
 obtain⟨_,cells,hr,_⟩:=h
 exact hr.len
theorem zgE {xs:List Value} {u:Value}(h:Reads w lo hi 3 A n xs)(hn:0<n)(hu:xs[0]?=some u):∃ b o,A=some ⟨b,o,none⟩∧lo≤b∧b<hi∧∀ j v,xs[j]?=some v→w.cell? ⟨b,o+j,none⟩=some v:=by
 obtain⟨ad,e,hl,hb,hc⟩:=h.at_ hn
 have hs:=zcJ (hc 0 u hu)
 refine⟨ad.block,ad.off,by rw [e,hs],hl,hb,fun j v hv=>?_⟩
 have:=hc j v hv
 rw [hs,zH] at this
 exact this
theorem SLAt.sys (h:SLAt w lo hi A n ss)(hk:k<n):∃ b o s B m c,A=some ⟨b,o,none⟩∧lo≤b∧b<hi∧Hid (ss[k]?=some s)∧w.cell? ⟨b,o+k*3,none⟩=some (.int .i64 s.al)∧w.cell? ⟨b,o+k*3+1,none⟩=some (.int .i64 s.st)∧w.cell? ⟨b,o+k*3+2,none⟩=some (.slice B m c)∧zah w lo hi B m s:=by
 obtain⟨e,cells,hr,hx⟩:=h
 have h0:ss[0]?=some (ss[0]'(by omega)):=List.getElem?_eq_getElem _
 obtain⟨_,_,_,z0,_⟩:=hx 0 _ h0
 rw [Nat.zero_mul] at z0
 obtain⟨b,o,rfl,hl,hb,hc⟩:=zgE hr (by omega) z0
 have hs:ss[k]?=some (ss[k]'(by omega)):=List.getElem?_eq_getElem _
 obtain⟨B,m,c,h0,h1,h2,h3⟩:=hx k _ hs
 exact⟨b,o,_,B,m,c,rfl,hl,hb,hs,hc _ _ h0,by rw [Nat.add_assoc];exact hc _ _ h1,by rw [Nat.add_assoc];exact hc _ _ h2,h3⟩
end
end Go.Proofs.YtfcjhpodichpjaaGreatDoor
namespace Go.Proofs.YtfcjhpodichpjaaGreatDoor
open Go Go.ChangeShapes Go.WideShapes Go.ChangeAt Go.RowKit Go.Deep
theorem own_:ownKnob Tryz.prog.godebug=none:=by kernel_rfl
theorem laidOut_:laidOutB Tryz.prog=true:=by kernel_rfl
theorem and_t {a b:Bool}(h:a=true) (k:b=true):(a&&b)=true:=by rw [h,k];rfl
end Go.Proofs.YtfcjhpodichpjaaGreatDoor
namespace Go.Proofs.YtfcjhpodichpjaaGreatDoor
open Go Go.RowKit Go.Lib Go.Shelf
def zcO:Go.Shelf.Ren:=⟨fun|146=>64|221=>114|268=>153|138=>154|143=>155|195=>181|197=>182|218=>183|219=>184|260=>217|217=>218|225=>219|224=>220|267=>221|266=>246|314=>247|n=>n,fun|9=>9|31=>61|3=>3|4=>4|0=>0|105=>189|21=>21|5=>5|46=>155|119=>261|139=>264|138=>263|146=>265|51=>233|n=>n,fun|1=>1|3=>4|4=>5|n=>n⟩
theorem zff:Go.Proofs.Lays.n146 Tryz.prog zcO where
 mixed:=by kernel_rfl
 f138:=Tryz.func154.trans (congrArg some (by kernel_rfl))
 f143:=Tryz.func155.trans (congrArg some (by kernel_rfl))
 f146:=Tryz.func64.trans (congrArg some (by kernel_rfl))
 f195:=Tryz.func181.trans (congrArg some (by kernel_rfl))
 f197:=Tryz.func182.trans (congrArg some (by kernel_rfl))
 f217:=Tryz.func218.trans (congrArg some (by kernel_rfl))
 f218:=Tryz.func183.trans (congrArg some (by kernel_rfl))
 f219:=Tryz.func184.trans (congrArg some (by kernel_rfl))
 f221:=Tryz.func114.trans (congrArg some (by kernel_rfl))
 f224:=Tryz.func220.trans (congrArg some (by kernel_rfl))
 f225:=Tryz.func219.trans (congrArg some (by kernel_rfl))
 f260:=Tryz.func217.trans (congrArg some (by kernel_rfl))
 f266:=Tryz.func246.trans (congrArg some (by kernel_rfl))
 f267:=Tryz.func221.trans (congrArg some (by kernel_rfl))
 f268:=Tryz.func153.trans (congrArg some (by kernel_rfl))
 f314:=Tryz.func247.trans (congrArg some (by kernel_rfl))
 t0:=Tryz.underlying0
 a0:=Tryz.isAgg0
 z0:=Tryz.sizeOf0
 v0:=Tryz.zeroValue0
 t3:=Tryz.underlying3
 a3:=Tryz.isAgg3
 z3:=Tryz.sizeOf3
 v3:=Tryz.zeroValue3
 t4:=Tryz.underlying4
 a4:=Tryz.isAgg4
 z4:=Tryz.sizeOf4
 v4:=Tryz.zeroValue4
 t5:=Tryz.underlying5
 a5:=Tryz.isAgg5
 z5:=Tryz.sizeOf5
 v5:=Tryz.zeroValue5
 t9:=Tryz.underlying9
 a9:=Tryz.isAgg9
 z9:=Tryz.sizeOf9
 v9:=Tryz.zeroValue9
 t21:=Tryz.underlying21
 a21:=Tryz.isAgg21
 z21:=Tryz.sizeOf21
 v21:=Tryz.zeroValue21
 t31:=Tryz.underlying61
 a31:=Tryz.isAgg61
 z31:=Tryz.sizeOf61
 v31:=Tryz.zeroValue61
 t46:=Tryz.underlying155
 a46:=Tryz.isAgg155
 z46:=Tryz.sizeOf155
 v46:=Tryz.zeroValue155
 t51:=Tryz.underlying233
 a51:=Tryz.isAgg233
 z51:=Tryz.sizeOf233
 v51:=Tryz.zeroValue233
 t105:=Tryz.underlying189
 a105:=Tryz.isAgg189
 z105:=Tryz.sizeOf189
 v105:=Tryz.zeroValue189
 t119:=Tryz.underlying261
 a119:=Tryz.isAgg261
 z119:=Tryz.sizeOf261
 t138:=Tryz.underlying263
 a138:=Tryz.isAgg263
 z138:=Tryz.sizeOf263
 v138:=Tryz.zeroValue263
 t139:=Tryz.underlying264
 a139:=Tryz.isAgg264
 z139:=Tryz.sizeOf264
 v139:=Tryz.zeroValue264
 t146:=Tryz.underlying265
 a146:=Tryz.isAgg265
 z146:=Tryz.sizeOf265
 v146:=Tryz.zeroValue265
 g1:=by kernel_rfl
 g3:=by kernel_rfl
 g4:=by kernel_rfl
theorem laySplit9:(Tryz.prog.info? (zcO.t 9)).map (fun i=>(i.zero,i.size,i.bytes))=some (some (.string ByteArray.empty),1,16):=by kernel_rfl
def layAtoi_ren:Go.Shelf.Ren:=⟨fun|172=>116|244=>157|245=>158|247=>186|279=>187|280=>188|281=>189|282=>190|287=>222|316=>223|171=>52|205=>224|321=>248|322=>249|243=>106|246=>150|283=>175|284=>176|285=>177|286=>178|129=>214|317=>213|318=>215|319=>216|320=>196|337=>236|338=>237|n=>n,fun|9=>9|3=>3|75=>122|76=>123|4=>4|5=>5|167=>192|37=>22|0=>0|85=>193|2=>2|168=>195|53=>180|175=>235|46=>155|210=>238|127=>154|145=>270|143=>268|21=>21|171=>179|173=>183|212=>232|51=>233|20=>20|213=>234|232=>278|233=>279|80=>125|n=>n,fun|15=>2|16=>3|17=>0|18=>6|19=>7|n=>n⟩
theorem layAtoi:Go.Proofs.LaysC.n172 Tryz.prog layAtoi_ren where
 mixed:=by kernel_rfl
 f129:=Tryz.func214.trans (congrArg some (by kernel_rfl))
 f171:=Tryz.func52.trans (congrArg some (by kernel_rfl))
 f172:=Tryz.func116.trans (congrArg some (by kernel_rfl))
 f205:=Tryz.func224.trans (congrArg some (by kernel_rfl))
 f243:=Tryz.func106.trans (congrArg some (by kernel_rfl))
 f244:=Tryz.func157.trans (congrArg some (by kernel_rfl))
 f245:=Tryz.func158.trans (congrArg some (by kernel_rfl))
 f246:=Tryz.func150.trans (congrArg some (by kernel_rfl))
 f247:=Tryz.func186.trans (congrArg some (by kernel_rfl))
 f279:=Tryz.func187.trans (congrArg some (by kernel_rfl))
 f280:=Tryz.func188.trans (congrArg some (by kernel_rfl))
 f281:=Tryz.func189.trans (congrArg some (by kernel_rfl))
 f282:=Tryz.func190.trans (congrArg some (by kernel_rfl))
 f283:=Tryz.func175.trans (congrArg some (by kernel_rfl))
 f284:=Tryz.func176.trans (congrArg some (by kernel_rfl))
 f285:=Tryz.func177.trans (congrArg some (by kernel_rfl))
 f286:=Tryz.func178.trans (congrArg some (by kernel_rfl))
 f287:=Tryz.func222.trans (congrArg some (by kernel_rfl))
 f316:=Tryz.func223.trans (congrArg some (by kernel_rfl))
 f317:=Tryz.func213.trans (congrArg some (by kernel_rfl))
 f318:=Tryz.func215.trans (congrArg some (by kernel_rfl))
 f319:=Tryz.func216.trans (congrArg some (by kernel_rfl))
 f320:=Tryz.func196.trans (congrArg some (by kernel_rfl))
 f321:=Tryz.func248.trans (congrArg some (by kernel_rfl))
 f322:=Tryz.func249.trans (congrArg some (by kernel_rfl))
 f337:=Tryz.func236.trans (congrArg some (by kernel_rfl))
 f338:=Tryz.func237.trans (congrArg some (by kernel_rfl))
 t0:=Tryz.underlying0
 a0:=Tryz.isAgg0
 z0:=Tryz.sizeOf0
 v0:=Tryz.zeroValue0
 t2:=Tryz.underlying2
 a2:=Tryz.isAgg2
 z2:=Tryz.sizeOf2
 v2:=Tryz.zeroValue2
 t3:=Tryz.underlying3
 a3:=Tryz.isAgg3
 z3:=Tryz.sizeOf3
 v3:=Tryz.zeroValue3
 t4:=Tryz.underlying4
 a4:=Tryz.isAgg4
 z4:=Tryz.sizeOf4
 v4:=Tryz.zeroValue4
 t5:=Tryz.underlying5
 a5:=Tryz.isAgg5
 z5:=Tryz.sizeOf5
 v5:=Tryz.zeroValue5
 t9:=Tryz.underlying9
 a9:=Tryz.isAgg9
 z9:=Tryz.sizeOf9
 v9:=Tryz.zeroValue9
 t20:=Tryz.underlying20
 a20:=Tryz.isAgg20
 z20:=Tryz.sizeOf20
 v20:=Tryz.zeroValue20
 t21:=Tryz.underlying21
 a21:=Tryz.isAgg21
 z21:=Tryz.sizeOf21
 v21:=Tryz.zeroValue21
 t37:=Tryz.underlying22
 a37:=Tryz.isAgg22
 z37:=Tryz.sizeOf22
 v37:=Tryz.zeroValue22
 t46:=Tryz.underlying155
 a46:=Tryz.isAgg155
 z46:=Tryz.sizeOf155
 v46:=Tryz.zeroValue155
 t51:=Tryz.underlying233
 a51:=Tryz.isAgg233
 z51:=Tryz.sizeOf233
 v51:=Tryz.zeroValue233
 t53:=Tryz.underlying180
 a53:=Tryz.isAgg180
 z53:=Tryz.sizeOf180
 v53:=Tryz.zeroValue180
 t75:=Tryz.underlying122
 a75:=Tryz.isAgg122
 z75:=Tryz.sizeOf122
 v75:=Tryz.zeroValue122
 t76:=Tryz.underlying123
 a76:=Tryz.isAgg123
 z76:=Tryz.sizeOf123
 v76:=Tryz.zeroValue123
 t85:=Tryz.underlying193
 a85:=Tryz.isAgg193
 z85:=Tryz.sizeOf193
 v85:=Tryz.zeroValue193
 t127:=Tryz.underlying154
 a127:=Tryz.isAgg154
 z127:=Tryz.sizeOf154
 v127:=Tryz.zeroValue154
 t143:=Tryz.underlying268
 a143:=Tryz.isAgg268
 z143:=Tryz.sizeOf268
 v143:=Tryz.zeroValue268
 t145:=Tryz.underlying270
 a145:=Tryz.isAgg270
 z145:=Tryz.sizeOf270
 v145:=Tryz.zeroValue270
 t167:=Tryz.underlying192
 a167:=Tryz.isAgg192
 z167:=Tryz.sizeOf192
 v167:=Tryz.zeroValue192
 t168:=Tryz.underlying195
 a168:=Tryz.isAgg195
 z168:=Tryz.sizeOf195
 v168:=Tryz.zeroValue195
 t171:=Tryz.underlying179
 a171:=Tryz.isAgg179
 z171:=Tryz.sizeOf179
 v171:=Tryz.zeroValue179
 t173:=Tryz.underlying183
 a173:=Tryz.isAgg183
 z173:=Tryz.sizeOf183
 v173:=Tryz.zeroValue183
 t175:=Tryz.underlying235
 a175:=Tryz.isAgg235
 z175:=Tryz.sizeOf235
 v175:=Tryz.zeroValue235
 t210:=Tryz.underlying238
 a210:=Tryz.isAgg238
 z210:=Tryz.sizeOf238
 v210:=Tryz.zeroValue238
 t212:=Tryz.underlying232
 a212:=Tryz.isAgg232
 z212:=Tryz.sizeOf232
 v212:=Tryz.zeroValue232
 t213:=Tryz.underlying234
 a213:=Tryz.isAgg234
 z213:=Tryz.sizeOf234
 t232:=Tryz.underlying278
 a232:=Tryz.isAgg278
 z232:=Tryz.sizeOf278
 v232:=Tryz.zeroValue278
 t233:=Tryz.underlying279
 a233:=Tryz.isAgg279
 z233:=Tryz.sizeOf279
 v233:=Tryz.zeroValue279
 g15:=by kernel_rfl
 g16:=by kernel_rfl
 g17:=by kernel_rfl
 g18:=by kernel_rfl
 g19:=by kernel_rfl
 t80:=Tryz.underlying125
 a80:=Tryz.isAgg125
 z80:=Tryz.sizeOf125
 v80:=Tryz.zeroValue125
 i0:=by kernel_rfl
 i2:=by kernel_rfl
 i3:=by kernel_rfl
 i4:=by kernel_rfl
 i5:=by kernel_rfl
 i9:=by kernel_rfl
 i20:=by kernel_rfl
 i21:=by kernel_rfl
 i37:=by kernel_rfl
 i46:=by kernel_rfl
 i51:=by kernel_rfl
 i53:=by kernel_rfl
 i75:=by kernel_rfl
 i76:=by kernel_rfl
 i80:=by kernel_rfl
 i85:=by kernel_rfl
 i127:=by kernel_rfl
 i143:=by kernel_rfl
 i145:=by kernel_rfl
 i167:=by kernel_rfl
 i168:=by kernel_rfl
 i171:=by kernel_rfl
 i173:=by kernel_rfl
 i175:=by kernel_rfl
 i210:=by kernel_rfl
 i212:=by kernel_rfl
 i232:=by kernel_rfl
 i233:=by kernel_rfl
 m15:=by kernel_rfl
 m16:=by kernel_rfl
 m17:=by kernel_rfl
 m18:=by kernel_rfl
 m19:=by kernel_rfl
 c0:=by kernel_rfl
 c2:=by kernel_rfl
 c3:=by kernel_rfl
 c4:=by kernel_rfl
 c5:=by kernel_rfl
 c9:=by kernel_rfl
 c20:=by kernel_rfl
 c21:=by kernel_rfl
 c37:=by kernel_rfl
 c46:=by kernel_rfl
 c51:=by kernel_rfl
 c53:=by kernel_rfl
 c75:=by kernel_rfl
 c76:=by kernel_rfl
 c80:=by kernel_rfl
 c85:=by kernel_rfl
 c127:=by kernel_rfl
 c143:=by kernel_rfl
 c145:=by kernel_rfl
 c167:=by kernel_rfl
 c168:=by kernel_rfl
 c171:=by kernel_rfl
 c173:=by kernel_rfl
 c175:=by kernel_rfl
 c210:=by kernel_rfl
 c212:=by kernel_rfl
 c213:=by kernel_rfl
 c232:=by kernel_rfl
 c233:=by kernel_rfl
end Go.Proofs.YtfcjhpodichpjaaGreatDoor
namespace Go.Proofs.YtfcjhpodichpjaaGreatDoor
open Go Go.RowKit
theorem zJ (a:Nat)(hs:Sm a) (w:World) :
  Calls Tryz.prog 61 #[.int .i64 a] w (zbq w (letters a 6)):=by
 go_enter Tryz.func61,Tryz.ntmps61
 go_wp2
 go_loopw [3,4] (fun v i wr=>∃ k:Nat,k≤6∧i=.int .i64 k∧wr.ownsRow w.heap.size 3 1 v (letters a k).length (zaK (letters a k))∧Ext w wr)
  (fun _ i _=>6 - (intOf i).toNat)
 case atStart=>exact⟨0,Nat.zero_le _,rfl,World.ownsRow_lit w #[] 0 (Nat.le_refl _) (by unfold maxLen;omega) rfl,(Ext.refl _).alloc _⟩
 case round =>
  obtain⟨k,hk,rfl,zhJ,zhL⟩:=hrel
  have hl:=zq a k
  by_cases hlt:k<6
  ·cases hb:a.testBit k
   all_goals
    have Hb:=za hb
    have hls:=zbW a k
    rw [hb] at hls
    have Hls:=za hls
    clear hls hb
    go_wp2_with (first
     |(go_at_call 112;refine (zaa a k hs _ (by omega)).mono ?_;rw [Hb.out];rintro e w' ⟨rfl,rfl⟩)
     |(at_builtin;refine zI w wr rfl _ _ _ rfl 3 _ 1 8 Tryz.underlying74 zac rfl (by decide) u3 _ _ _ _ rfl rfl zhL zhJ rfl (zbv _) (by unfold maxLen;omega) (by omega) ?_;intro v' w1 hext1 zhS hg1 hat1))
    exact yU01a2
  ·obtain rfl:k=6:=by omega
   obtain⟨A,c,rfl⟩:=zf zhJ
   go_wp2
   go_ret
   exact⟨_,_,rfl,zhJ,zhL⟩
def zbC (b:UInt8):Bool:=decide (97≤(b.toNat:Int)∧(b.toNat:Int)≤102)
def zaO (s:ByteArray):Bool:=decide (s.size≤50000)&&s.data.toList.all zbC
theorem zaB (s:ByteArray) (i:Nat)(h:i<s.size):s.data.toList[i]?=some s[i]:=by
 rw [List.getElem?_eq_getElem (by simpa using h)];rfl
theorem yU01a1 {P:Prop}(h:P:=by
 go_wp2_with (go_at_call 62;refine (zaI s k hlt _).mono ?_;rw [hx.out];rintro e w' ⟨rfl,rfl⟩)
 go_ret
 exact⟨zm (by rw [zaO,zaL hg.out (by have:=hx.out;simp [zbC];omega),Bool.and_false]),rfl⟩
 ):P:=h
theorem zbu (s:ByteArray) (w:World)(hs:s.size≤9223372036854775807) :
  Calls Tryz.prog 29 #[.string s] w fun e w'=>e=.returned (.bool (zaO s))∧w=w':=by
 by_cases h:50000<s.size
 ·go_enter Tryz.func29,Tryz.ntmps29
  go_wp2
  go_ret
  exact⟨by simp [zaO,show ¬ s.size≤50000 by omega],rfl⟩
 ·go_enter Tryz.func29,Tryz.ntmps29
  go_wp2
  go_loop [3] (fun i=>∃ k:Nat,k≤s.size∧i=.int .i64 k∧Hid ((s.data.toList.take k).all zbC=true)) (fun i=>s.size - (intOf i).toNat)
  case atStart=>exact⟨0,Nat.zero_le _,rfl,rfl⟩
  case round =>
   obtain⟨k,hk,rfl,hall⟩:=hrel
   by_cases hlt:k<s.size
   ·have hg:=za (zaB s k hlt)
    obtain⟨x,hx,hx0,hx1⟩:∃ x:Int,Hid ((s[k].toNat:Int) - 97=x) ∧ -97≤x∧x≤158:=⟨(s[k].toNat:Int) - 97,za rfl,by omega,by have:=zaP s k hlt;omega⟩
    by_cases h0:x<0
    ·exact yU01a1
    ·by_cases h1:6≤x
     ·exact yU01a1
     ·go_wp2_with (go_at_call 62;refine (zaI s k hlt _).mono ?_;rw [hx.out];rintro e w' ⟨rfl,rfl⟩)
      go_round
      case rel=>exact⟨k+1,by omega,by go_num,zbU hg.out hall.out (by have:=hx.out;simp [zbC];omega)⟩
      case measure=>simp [intOf];omega
   ·obtain rfl:k=s.size:=by omega
    go_wp2
    go_ret
    exact⟨zm (by rw [zaO,zdH (by simp) hall.out];simp;omega),rfl⟩
def zeX (s:ByteArray) (a:Nat):Bool:=s.data.toList.all fun b=>hasB a (ltr b.toNat)
theorem over_all {a:Nat}(h:a=63) (b:UInt8):hasB a (ltr b.toNat)=zbC b:=by
 subst h
 have:b.toNat<256:=b.toNat_lt
 unfold hasB ltr zbC
 by_cases h1:(b.toNat:Int) - 97<0
 ·rw [if_pos (.inl h1)];simp;omega
 ·by_cases h2:6≤(b.toNat:Int) - 97
  ·rw [if_pos (.inr h2)];simp;omega
  ·rw [if_neg (by omega)]
   have h3:b.toNat=97∨b.toNat=98∨b.toNat=99∨b.toNat=100∨b.toNat=101∨b.toNat=102:=by omega
   rcases h3 with h|h|h|h|h|h<;>rw [h]<;>decide
theorem overB_63 (s:ByteArray):zeX s 63=s.data.toList.all zbC:=by
 unfold zeX
 congr 1
 funext b
 exact over_all rfl b
theorem zfz (s:ByteArray) (a:Nat) (w:World)(hs:s.size≤9223372036854775807)(ha:a≤63) :
  Calls Tryz.prog 56 #[.string s,.int .i64 a] w fun e w'=>e=.returned (.bool (decide (s.size≤50000)&&zeX s a))∧w=w':=by
 have hsm:Sm a:=by unfold Sm;omega
 have hal:(decide ((0:Int)≤a∧(a:Int)≤63))=true:=by simp;omega
 have Hal:=za hal
 clear hal
 by_cases h:50000<s.size
 ·go_enter Tryz.func56,Tryz.ntmps56
  go_wp2_with (go_at_call 54;refine (zaf _ _).mono ?_;rw [Hal.out];rintro e w' ⟨rfl,rfl⟩)
  go_ret
  exact⟨by simp [show ¬ s.size≤50000 by omega],rfl⟩
 ·go_enter Tryz.func56,Tryz.ntmps56
  go_wp2_with (go_at_call 54;refine (zaf _ _).mono ?_;rw [Hal.out];rintro e w' ⟨rfl,rfl⟩)
  go_loop [16] (fun i=>∃ k:Nat,k≤s.size∧i=.int .i64 k∧Hid ((s.data.toList.take k).all (fun b=>hasB a (ltr b.toNat))=true)) (fun i=>s.size - (intOf i).toNat)
  case atStart=>exact⟨0,Nat.zero_le _,rfl,rfl⟩
  case round =>
   obtain⟨k,hk,rfl,hall⟩:=hrel
   by_cases hlt:k<s.size
   ·have hg:=za (zaB s k hlt)
    cases hb:hasB a (ltr (s[k].toNat:Int))
    ·have Hb:=za hb
     clear hb
     go_wp2_with (first|(go_at_call 110;refine (zbI s k hlt _).mono ?_;rintro e w' ⟨rfl,rfl⟩)|(go_at_call 84;refine (zha _ _ hsm _).mono ?_;rw [Hb.out];rintro e w' ⟨rfl,rfl⟩))
     go_ret
     exact⟨zm (by rw [zeX,zaL hg.out Hb.out,Bool.and_false]),rfl⟩
    ·have Hb:=za hb
     clear hb
     go_wp2_with (first|(go_at_call 110;refine (zbI s k hlt _).mono ?_;rintro e w' ⟨rfl,rfl⟩)|(go_at_call 84;refine (zha _ _ hsm _).mono ?_;rw [Hb.out];rintro e w' ⟨rfl,rfl⟩))
     go_round
     case rel=>exact⟨k+1,by omega,by go_num,zbU hg.out hall.out Hb.out⟩
     case measure=>simp [intOf];omega
   ·obtain rfl:k=s.size:=by omega
    go_wp2
    go_ret
    exact⟨zm (by rw [zeX,zdH (by simp) hall.out];simp;omega),rfl⟩
theorem zge (s:ByteArray) (w:World)(hs:s.size≤9223372036854775807) :
  Calls Tryz.prog 25 #[.string s] w fun e w'=>e=.returned (.bool (zaO s))∧w=w':=by
 have hov:=overB_63 s
 have Hov:=za hov
 clear hov
 go_enter Tryz.func25,Tryz.ntmps25
 go_wp2_with (go_at_call 56;refine (zfz s 63 _ hs (by omega)).mono ?_;rintro e w' ⟨rfl,rfl⟩)
 go_ret
 exact⟨zm (by rw [Hov.out];rfl),rfl⟩
def zhk (k n:Nat) (row:List Int):Bool:=decide (row.length=k)&&row.all fun q=>decide (0≤q∧q<n)
def zh (a:Aut):Bool:=
 decide (0≤a.al∧a.al≤63)&&(decide (1≤a.next.length∧a.next.length≤12)&&(decide (a.acc.length=a.next.length)&&a.next.all (zhk (letters a.al.toNat 6).length a.next.length)))
theorem zgI (lo hi:Nat) (A:Option Addr) (n c:Nat) (l:List Int) (k m:Nat) (w:World)(h:Reads w lo hi 1 A n (ints l))(hk:k≤100) (_hm:m≤100) :
  Calls Tryz.prog 60 #[.slice A n c,.int .i64 k,.int .i64 m] w fun e w'=>e=.returned (.bool (zhk k m l))∧w=w':=by
 have hn:=h.len
 have hl:l.length=n:=by have:=h.length;rw [zfA] at this;omega
 have Hl:=za hl
 clear hl
 by_cases he:n=k
 ·subst he
  go_enter Tryz.func60,Tryz.ntmps60
  go_wp2
  go_loop [7] (fun i=>∃ k:Nat,k≤n∧i=.int .i64 k∧Hid ((l.take k).all (fun q=>decide (0≤q∧q<m))=true)) (fun i=>n - (intOf i).toNat)
  case atStart=>exact⟨0,Nat.zero_le _,rfl,rfl⟩
  case round =>
   obtain⟨k,hk,rfl,hall⟩:=hrel
   by_cases hlt:k<n
   ·obtain⟨ad,x,rfl,_,_,hx,hcell⟩:=h.int hlt
    by_cases h0:x<0
    ·go_wp2
     go_ret
     exact⟨zm (by rw [zhk,zaL hx.out (by simp;omega),Bool.and_false]),rfl⟩
    ·by_cases h1:(m:Int)≤x
     ·go_wp2
      go_ret
      exact⟨zm (by rw [zhk,zaL hx.out (by simp;omega),Bool.and_false]),rfl⟩
     ·go_wp2
      go_round
      case rel=>exact⟨k+1,by omega,by go_num,zbU hx.out hall.out (by simp;omega)⟩
      case measure=>simp [intOf];omega
   ·obtain rfl:k=n:=by omega
    go_wp2
    go_ret
    exact⟨zm (by rw [zhk,zdH (by have:=Hl.out;omega) hall.out,Hl.out];simp),rfl⟩
 ·go_enter Tryz.func60,Tryz.ntmps60
  go_wp2
  go_ret
  exact⟨zm (by rw [zhk,Hl.out];simp [he]),rfl⟩
theorem zE (lo hi:Nat) (A:Option Addr) (n c:Nat) (A':Option Addr) (n' c':Nat) (a:Aut) (w:World)(h:zM w lo hi A n A' n' a) :
  Calls Tryz.prog 27 #[.agg #[.int .i64 a.al,.slice A n c,.slice A' n' c']] w fun e w'=>e=.returned (.bool (zh a))∧Ext w w':=by
 have h1:=h.n1
 have h2:=h.n2
 have Hv:=za (show zh a=(decide (0≤a.al∧a.al≤63)&&(decide (1≤n∧n≤12)&&(decide (n'=n)&&a.next.all (zhk (letters a.al.toNat 6).length n)))) by unfold zh;rw [← h1,← h2])
 have hl1:=h.1.len
 have hl2:=h.2.2.len
 clear h1 h2
 by_cases hal:0≤a.al∧a.al≤63
 ·have hd:=za (show decide (0≤a.al∧a.al≤63)=true by simp;omega)
  by_cases hn:1≤n∧n≤12
  ·have hd1:decide ((n:Int)<1)=false:=by simp;omega
   have hd2:decide (12<(n:Int))=false:=by simp;omega
   by_cases hn':n'=n
   ·subst hn'
    obtain⟨al,hal'⟩:∃ al:Nat,Hid (a.al=al):=⟨a.al.toNat,by unfold Hid;omega⟩
    have hsm:Sm al:=by have:=hal'.out;unfold Sm;omega
    have hll:=zq al 6
    rw [hal'.out]
    rw [hal'.out] at hd
    rw [hal'.out,Int.toNat_natCast] at Hv
    clear hal
    have hR:=fun W (hW:Ext w W)=>h.1.ext hW
    have HR:=za hR
    clear hR
    go_enter Tryz.func27,Tryz.ntmps27
    go_wp2_with (go_at_call 59;refine (zC _ _).mono ?_;rw [hd.out];rintro e w' ⟨rfl,rfl⟩)
    go_loopw [4] (fun i wr=>∃ k:Nat,k≤n'∧i=.int .i64 k∧Hid ((a.next.take k).all (zhk (letters al 6).length n')=true)∧Ext (w.alloc (.cells #[Value.int .i64 al,Value.slice A n' c,Value.slice A' n' c'] 26)) wr)
     (fun i _=>n' - (intOf i).toNat)
    case atStart=>exact⟨0,Nat.zero_le _,rfl,rfl,Ext.refl _⟩
    case round =>
     obtain⟨k,hk,rfl,hall,zhL⟩:=hrel
     have hbox:∀ W,Ext wr W→∀ j,W.cell? ⟨w.heap.size,j,none⟩=#[Value.int .i64 al,Value.slice A n' c,Value.slice A' n' c'][j]?:=fun W hW=>zct (zhL.trans hW)
     by_cases hlt:k<n'
     ·obtain⟨ad,Ak,ck,l,rfl,hlo,hhi,hl,hcell,hrk⟩:=(HR.out wr (((Ext.refl _).alloc _).trans zhL)).row hlt
      have hce:∀ W,Ext wr W→W.cell? (ad.add k)=some (.slice Ak l.length ck):=fun W hW=>hW.cell_some hcell
      have hwr:=Ext.refl wr
      have zhM:∀ W,Ext wr W→Ext w W:=fun W hW=>(((Ext.refl _).alloc _).trans zhL).trans hW
      have Hfin:=za zhM
      clear zhM
      cases hrb:zhk (letters al 6).length n' l
      ·have Hrb:=za hrb
       clear hrb
       go_wp2_with fail
       go_region_held3 (fun W=>Ext wr W) (first|assumption|(refine Ext.drew ?_;assumption)|(refine Ext.trans ?_ (by assumption);assumption)|(refine Ext.trans ?_ (by assumption);refine Ext.drew ?_;assumption)) (first|(go_at_call 61;refine (zJ _ hsm _).mono ?_;rintro e w2 ⟨A2,c2,rfl,zhT,hext2⟩)|(go_at_call 60;refine (zgI _ _ _ _ _ _ _ _ _ (hrk.ext ?_) (by omega) (by omega)).mono ?_;assumption;rw [Hrb.out];rintro e w3 ⟨rfl,rfl⟩))
       go_wp2
       go_ret
       exact⟨zm (by rw [Hv.out,zaL hl.out Hrb.out];simp),Hfin.out _ (by assumption)⟩
      ·have Hrb:=za hrb
       clear hrb
       go_wp2_with fail
       go_region_held3 (fun W=>Ext wr W) (first|assumption|(refine Ext.drew ?_;assumption)|(refine Ext.trans ?_ (by assumption);assumption)|(refine Ext.trans ?_ (by assumption);refine Ext.drew ?_;assumption)) (first|(go_at_call 61;refine (zJ _ hsm _).mono ?_;rintro e w2 ⟨A2,c2,rfl,zhT,hext2⟩)|(go_at_call 60;refine (zgI _ _ _ _ _ _ _ _ _ (hrk.ext ?_) (by omega) (by omega)).mono ?_;assumption;rw [Hrb.out];rintro e w3 ⟨rfl,rfl⟩))
       go_wp2
       go_roundw
       case rel=>exact⟨k+1,by omega,by go_num,zbU hl.out hall.out Hrb.out,zhL.trans (by assumption)⟩
       case measure=>simp [intOf];omega
     ·obtain rfl:k=n':=by omega
      go_wp2
      go_ret
      exact⟨zm (by rw [Hv.out,zdH (by have:=h.n1;omega) hall.out,hd.out];simp;omega),((Ext.refl _).alloc _).trans zhL⟩
   ·have hne:((n':Int) != (n:Int))=true:=by simp;omega
    go_enter Tryz.func27,Tryz.ntmps27
    go_wp2_with (go_at_call 59;refine (zC _ _).mono ?_;rw [hd.out];rintro e w' ⟨rfl,rfl⟩)
    go_ret
    exact⟨zm (by rw [Hv.out];simp [hn']),(Ext.refl _).alloc _⟩
  ·go_enter Tryz.func27,Tryz.ntmps27
   go_wp2_with (go_at_call 59;refine (zC _ _).mono ?_;rw [hd.out];rintro e w' ⟨rfl,rfl⟩)
   all_goals go_ret
   all_goals exact⟨zm (by rw [Hv.out];simp [hn]),(Ext.refl _).alloc _⟩
 ·go_enter Tryz.func27,Tryz.ntmps27
  have hd:decide (0≤a.al∧a.al≤63)=false:=by simp;omega
  go_wp2_with (go_at_call 59;refine (zC _ _).mono ?_;rw [hd];rintro e w' ⟨rfl,rfl⟩)
  go_ret
  exact⟨zm (by rw [Hv.out];simp;omega),(Ext.refl _).alloc _⟩
theorem zbL (lo hi:Nat) (A:Option Addr) (n c:Nat) (A':Option Addr) (n' c':Nat) (a:Aut) (w:World)(h:zM w lo hi A n A' n' a) :
  Calls Tryz.prog 24 #[.agg #[.int .i64 a.al,.slice A n c,.slice A' n' c']] w fun e w'=>e=.returned (.bool (zh a))∧Ext w w':=by
 have h1:=h.n1
 have h2:=h.n2
 have Hv:=za (show zh a=(decide (0≤a.al∧a.al≤63)&&(decide (1≤n∧n≤12)&&(decide (n'=n)&&a.next.all (zhk (letters a.al.toNat 6).length n)))) by unfold zh;rw [← h1,← h2])
 have hl1:=h.1.len
 have hl2:=h.2.2.len
 clear h1 h2
 by_cases hal:0≤a.al∧a.al≤63
 ·have hd:=za (show decide (0≤a.al∧a.al≤63)=true by simp;omega)
  by_cases hn:1≤n∧n≤12
  ·have hd1:decide ((n:Int)<1)=false:=by simp;omega
   have hd2:decide (12<(n:Int))=false:=by simp;omega
   by_cases hn':n'=n
   ·subst hn'
    obtain⟨al,hal'⟩:∃ al:Nat,Hid (a.al=al):=⟨a.al.toNat,by unfold Hid;omega⟩
    have hsm:Sm al:=by have:=hal'.out;unfold Sm;omega
    have hll:=zq al 6
    rw [hal'.out]
    rw [hal'.out] at hd
    rw [hal'.out,Int.toNat_natCast] at Hv
    clear hal
    have hR:=fun W (hW:Ext w W)=>h.1.ext hW
    have HR:=za hR
    clear hR
    go_enter Tryz.func24,Tryz.ntmps24
    go_wp2_with (first
     |(go_at_call 54;refine (zaf _ _).mono ?_;rw [hd.out];rintro e w' ⟨rfl,rfl⟩)
     |(go_at_call 55;refine (zdy _ hsm _).mono ?_;rintro e w2 ⟨A2,c2,rfl,zhT,hext2⟩;have hbox2:=zct hext2))
    go_loopw [40] (fun i wr=>∃ k:Nat,k≤n'∧i=.int .i64 k∧Hid ((a.next.take k).all (zhk (letters al 6).length n')=true)∧Ext w2 wr)
     (fun i _=>n' - (intOf i).toNat)
    case atStart=>exact⟨0,Nat.zero_le _,rfl,rfl,Ext.refl _⟩
    case round =>
     obtain⟨k,hk,rfl,hall,zhL⟩:=hrel
     have hbox:∀ W,Ext wr W→∀ j,W.cell? ⟨w.heap.size,j,none⟩=#[Value.int .i64 al,Value.slice A n' c,Value.slice A' n' c'][j]?:=fun W hW=>zct ((hext2.trans zhL).trans hW)
     have hwr:=Ext.refl wr
     clear hbox2
     have zhM:Ext w wr:=(((Ext.refl _).alloc _).trans hext2).trans zhL
     by_cases hlt:k<n'
     ·obtain⟨ad,Ak,ck,l,rfl,hlo,hhi,hl,hcell,hrk⟩:=(HR.out wr zhM).row hlt
      by_cases hlk:l.length=(letters al 6).length
      ·obtain⟨m,hm⟩:∃ m,Hid ((letters al 6).length=m):=⟨_,rfl⟩
       have hlm:Hid (l.length=m):=by have:=hm.out;unfold Hid;omega
       rw [hm.out] at hll ⊢
       rw [hm.out] at hall Hv
       rw [hlm.out] at hcell hrk
       clear hlk
       go_wp2_with fail
       go_loop [50] (fun i=>∃ j:Nat,j≤m∧i=.int .i64 j∧Hid ((l.take j).all (fun q=>decide (0≤q∧q<n'))=true)) (fun i=>m - (intOf i).toNat)
       case atStart=>exact⟨0,Nat.zero_le _,rfl,rfl⟩
       case round =>
        obtain⟨j,hj,rfl,hallj⟩:=hrel
        by_cases hltj:j<m
        ·obtain⟨ad2,x,rfl,_,_,hx,hcell2⟩:=hrk.int hltj
         by_cases h0:x<0
         ·go_wp2
          go_ret
          exact⟨zm (by rw [Hv.out,zaL hl.out (by rw [zhk,zaL hx.out (by simp;omega),Bool.and_false])];simp),zhM⟩
         ·by_cases h1:(n':Int)≤x
          ·go_wp2
           go_ret
           exact⟨zm (by rw [Hv.out,zaL hl.out (by rw [zhk,zaL hx.out (by simp;omega),Bool.and_false])];simp),zhM⟩
          ·go_wp2
           go_round
           case rel=>exact⟨j+1,by omega,by go_num,zbU hx.out hallj.out (by simp;omega)⟩
           case measure=>simp [intOf];omega
        ·obtain rfl:j=m:=by omega
         go_wp2
         go_roundw
         case rel=>exact⟨k+1,by omega,by go_num,zbU hl.out hall.out (by rw [zhk,zdH (by have:=hlm.out;omega) hallj.out,hlm.out];simp),zhL⟩
         case measure=>simp [intOf];omega
      ·have hne:((l.length:Int) != ((letters al 6).length:Int))=true:=by simp;omega
       go_wp2
       go_ret
       exact⟨zm (by rw [Hv.out,zaL hl.out (by simp [zhk,hlk])];simp),zhM⟩
     ·obtain rfl:k=n':=by omega
      go_wp2
      go_ret
      exact⟨zm (by rw [Hv.out,zdH (by have:=h.n1;omega) hall.out,hd.out];simp;omega),zhM⟩
   ·have hne:((n':Int) != (n:Int))=true:=by simp;omega
    go_enter Tryz.func24,Tryz.ntmps24
    go_wp2_with (go_at_call 54;refine (zaf _ _).mono ?_;rw [hd.out];rintro e w' ⟨rfl,rfl⟩)
    go_ret
    exact⟨zm (by rw [Hv.out];simp [hn']),(Ext.refl _).alloc _⟩
  ·go_enter Tryz.func24,Tryz.ntmps24
   go_wp2_with (go_at_call 54;refine (zaf _ _).mono ?_;rw [hd.out];rintro e w' ⟨rfl,rfl⟩)
   all_goals go_ret
   all_goals exact⟨zm (by rw [Hv.out];simp [hn]),(Ext.refl _).alloc _⟩
 ·go_enter Tryz.func24,Tryz.ntmps24
  have hd:decide (0≤a.al∧a.al≤63)=false:=by simp;omega
  go_wp2_with (go_at_call 54;refine (zaf _ _).mono ?_;rw [hd];rintro e w' ⟨rfl,rfl⟩)
  go_ret
  exact⟨zm (by rw [Hv.out];simp;omega),(Ext.refl _).alloc _⟩
def zcp (a:Aut):Bool:=decide (a.al=0)&&(decide (a.next.length=0)&&decide (a.acc.length=0))
theorem spec_l13None (lo hi:Nat) (A:Option Addr) (n c:Nat) (A':Option Addr) (n' c':Nat) (a:Aut) (w:World)(h:zM w lo hi A n A' n' a) :
  Calls Tryz.prog 28 #[.agg #[.int .i64 a.al,.slice A n c,.slice A' n' c']] w fun e w'=>e=.returned (.bool (zcp a))∧Ext w w':=by
 have Hv:=za (show zcp a=(decide (a.al=0)&&(decide (n=0)&&decide (n'=0))) by unfold zcp;rw [← h.n1,← h.n2])
 have hl1:=h.1.len
 have hl2:=h.2.2.len
 clear h
 by_cases h0:a.al=0
 ·have hb:((a.al:Int)==0)=true:=by simp [h0]
  have H0:=za h0
  clear h0
  by_cases h1:n=0
  ·have hb1:((n:Int)==0)=true:=by simp [h1]
   have H1:=za h1
   clear h1
   go_enter Tryz.func28,Tryz.ntmps28
   go_wp2
   go_ret
   exact⟨zm (by rw [Hv.out,H0.out,H1.out];by_cases h2:n'=0<;>simp [h2]),(Ext.refl _).alloc _⟩
  ·have hb1:((n:Int)==0)=false:=by simp [h1]
   go_enter Tryz.func28,Tryz.ntmps28
   go_wp2
   go_ret
   exact⟨zm (by rw [Hv.out];simp [h1]),(Ext.refl _).alloc _⟩
 ·have hb:((a.al:Int)==0)=false:=by simp [h0]
  go_enter Tryz.func28,Tryz.ntmps28
  go_wp2
  go_ret
  exact⟨zm (by rw [Hv.out];simp [h0]),(Ext.refl _).alloc _⟩
def zw (hd:Bool) (a:Aut) (s:ByteArray):Bool:=if hd then zh a&&s.toList.isEmpty else zcp a&&zaO s
theorem zag (lo hi:Nat) (A:Option Addr) (n c:Nat) (A':Option Addr) (n' c':Nat)(hd:Bool) (a:Aut) (s:ByteArray) (w:World)(h:zM w lo hi A n A' n' a)(hs:s.size≤9223372036854775807) :
  Calls Tryz.prog 10 #[.agg #[.bool hd,.int .i64 a.al,.slice A n c,.slice A' n' c',.string s]] w fun e w'=>e=.returned (.bool (zw hd a s))∧Ext w w':=by
 have hR:=fun W (hW:Ext w W)=>h.ext hW
 have HR:=za hR
 clear hR
 cases hd
 ·cases hb:zcp a
  all_goals
   have Hb:=za hb
   clear hb
   go_enter Tryz.func10,Tryz.ntmps10
   go_wp2_with (first
    |(go_at_call 28;refine (spec_l13None _ _ _ _ _ _ _ _ _ _ (HR.out _ ?_)).mono ?_;exact (Ext.refl _).alloc _;rw [Hb.out];rintro e w2 ⟨rfl,hext2⟩;have hbox:=zct hext2)
    |(go_at_call 29;refine (zbu s _ hs).mono ?_;rintro e w' ⟨rfl,rfl⟩))
   go_ret
   exact⟨zm (by rw [zw,Hb.out];simp),((Ext.refl _).alloc _).trans hext2⟩
 ·cases hb:zh a
  all_goals
   have Hb:=za hb
   clear hb
   go_enter Tryz.func10,Tryz.ntmps10
   go_wp2_with (go_at_call 27;refine (zE _ _ _ _ _ _ _ _ _ _ (HR.out _ ?_)).mono ?_;exact (Ext.refl _).alloc _;rw [Hb.out];rintro e w2 ⟨rfl,hext2⟩;have hbox:=zct hext2)
   go_ret
   exact⟨zm (by rw [zw,Hb.out];simp),((Ext.refl _).alloc _).trans hext2⟩
theorem zcN (lo hi:Nat) (A:Option Addr) (n c:Nat) (A':Option Addr) (n' c':Nat)(hd:Bool) (a:Aut) (s:ByteArray) (w:World)(h:zM w lo hi A n A' n' a)(hs:s.size≤9223372036854775807) :
  Calls Tryz.prog 8 #[.agg #[.bool hd,.int .i64 a.al,.slice A n c,.slice A' n' c',.string s]] w fun e w'=>e=.returned (.bool (zw hd a s))∧Ext w w':=by
 have hR:=fun W (hW:Ext w W)=>h.ext hW
 have HR:=za hR
 clear hR
 cases hd
 ·have Hv:=za (show zcp a=(decide (a.al=0)&&(decide (n=0)&&decide (n'=0))) by unfold zcp;rw [← h.n1,← h.n2])
  have hl1:=h.1.len
  have hl2:=h.2.2.len
  clear h
  by_cases h0:a.al=0
  ·have hb:((a.al:Int)==0)=true:=by simp [h0]
   have H0:=za h0
   clear h0
   by_cases h1:n=0
   ·have hb1:((n:Int)==0)=true:=by simp [h1]
    have H1:=za h1
    clear h1
    by_cases h2:n'=0
    ·have hb2:((n':Int)==0)=true:=by simp [h2]
     have H2:=za h2
     clear h2
     go_enter Tryz.func8,Tryz.ntmps8
     go_wp2_with (go_at_call 25;refine (zge s _ hs).mono ?_;rintro e w' ⟨rfl,rfl⟩)
     go_ret
     exact⟨zm (by rw [zw,Hv.out,H0.out,H1.out,H2.out];simp),((Ext.refl _).alloc _).alloc _⟩
    ·have hb2:((n':Int)==0)=false:=by simp [h2]
     go_enter Tryz.func8,Tryz.ntmps8
     go_wp2_with fail
     go_ret
     exact⟨zm (by rw [zw,Hv.out];simp [h2]),((Ext.refl _).alloc _).alloc _⟩
   ·have hb1:((n:Int)==0)=false:=by simp [h1]
    go_enter Tryz.func8,Tryz.ntmps8
    go_wp2_with fail
    go_ret
    exact⟨zm (by rw [zw,Hv.out];simp [h1]),((Ext.refl _).alloc _).alloc _⟩
  ·have hb:((a.al:Int)==0)=false:=by simp [h0]
   go_enter Tryz.func8,Tryz.ntmps8
   go_wp2_with fail
   go_ret
   exact⟨zm (by rw [zw,Hv.out];simp [h0]),((Ext.refl _).alloc _).alloc _⟩
 ·cases hb:zh a
  all_goals
   have Hb:=za hb
   clear hb
   go_enter Tryz.func8,Tryz.ntmps8
   go_wp2_with (go_at_call 24;refine (zbL _ _ _ _ _ _ _ _ _ _ (HR.out _ ?_)).mono ?_;exact (Ext.refl _).alloc _;rw [Hb.out];rintro e w2 ⟨rfl,hext2⟩;have hbox:=zct hext2)
   go_ret
   exact⟨zm (by rw [zw,Hb.out];simp),((Ext.refl _).alloc _).trans hext2⟩
def keyL (f:Nat→List UInt8) (x:Nat) (r:List Nat):List UInt8:=f x++r.flatMap fun y=>44 :: f y
section
variable {f:Nat→List UInt8} {B:Nat}
theorem keyL_snoc (x:Nat) (r:List Nat) (y:Nat):keyL f x (r++[y])=keyL f x r++(44 :: f y):=by
 unfold keyL
 rw [List.flatMap_append,List.append_assoc]
 simp
theorem zfU:∀ {u v s t:List UInt8},44∉u→44∉v→(s=[]∨∃ s',s=44 :: s')→(t=[]∨∃ t',t=44 :: t')→u++s=v++t→u=v∧s=t
 |[],[],_,_,_,_,_,_,h=>⟨rfl,h⟩
 |[],b :: v,s,t,_,hv,hs,_,h=>by
  exfalso
  rcases hs with rfl|⟨s',rfl⟩
  ·simp at h
  ·simp only [List.nil_append,List.cons_append,List.cons.injEq] at h
   exact hv (by simp [h.1])
 |a :: u,[],s,t,hu,_,_,ht,h=>by
  exfalso
  rcases ht with rfl|⟨t',rfl⟩
  ·simp at h
  ·simp only [List.nil_append,List.cons_append,List.cons.injEq] at h
   exact hu (by simp [h.1])
 |a :: u,b :: v,s,t,hu,hv,hs,ht,h=>by
  simp only [List.cons_append,List.cons.injEq] at h
  obtain⟨rfl,h⟩:=h
  obtain⟨h1,h2⟩:=zfU (fun h=>hu (by simp [h])) (fun h=>hv (by simp [h])) hs ht h
  exact⟨by rw [h1],h2⟩
theorem tail_form (r:List Nat):(r.flatMap fun y=>44 :: f y)=[]∨∃ s',(r.flatMap fun y=>44 :: f y)=44 :: s':=by
 cases r with
 |nil=>exact .inl rfl
 |cons y r=>exact .inr ⟨f y++r.flatMap fun y=>44 :: f y,by simp⟩
theorem keyL_inj (hf:∀ x,x<B→44∉f x)(hi:∀ x y,x<B→y<B→f x=f y→x=y):∀ {r t:List Nat} {x y:Nat},x<B→y<B→(∀ z∈r,z<B)→(∀ z∈t,z<B)→keyL f x r=keyL f y t→x=y∧r=t
 |r,t,x,y,hx,hy,hr,ht,h=>by
  unfold keyL at h
  obtain⟨h1,h2⟩:=zfU (hf x hx) (hf y hy) (tail_form r) (tail_form t) h
  refine⟨hi x y hx hy h1,?_⟩
  cases r with
  |nil=>cases t with
   |nil=>rfl
   |cons b t=>simp at h2
  |cons a r=>cases t with
   |nil=>simp at h2
   |cons b t =>
    rw [List.flatMap_cons,List.flatMap_cons,List.cons_append,List.cons_append,List.cons.injEq] at h2
    obtain⟨h3,h4⟩:=keyL_inj hf hi (r:=r) (t:=t) (hr a (by simp)) (ht b (by simp)) (fun z hz=>hr z (by simp [hz])) (fun z hz=>ht z (by simp [hz])) h2.2
    rw [h3,h4]
termination_by r=>r.length
end
theorem zfv {x:Nat}(h:x<100):(44:UInt8)∉Lib.decDigits x:=by
 intro hm
 by_cases h1:x<10
 ·rw [Lib.decDigits_one h1] at hm
  have:=congrArg UInt8.toNat (List.mem_singleton.1 hm)
  simp at this
  omega
 ·rw [Lib.decDigits_two h1 h] at hm
  rcases List.mem_cons.1 hm with e|e
  ·have:=congrArg UInt8.toNat e
   simp at this
   omega
  ·have:=congrArg UInt8.toNat (List.mem_singleton.1 e)
   simp at this
   omega
theorem dig_inj {x y:Nat}(hx:x<100)(hy:y<100)(h:Lib.decDigits x=Lib.decDigits y):x=y:=by
 by_cases h1:x<10<;>by_cases h2:y<10
 ·rw [Lib.decDigits_one h1,Lib.decDigits_one h2] at h
  have:=congrArg UInt8.toNat (List.cons.inj h).1
  simp at this
  omega
 ·rw [Lib.decDigits_one h1,Lib.decDigits_two h2 hy] at h
  have:=congrArg List.length h
  simp at this
 ·rw [Lib.decDigits_two h1 hx,Lib.decDigits_one h2] at h
  have:=congrArg List.length h
  simp at this
 ·rw [Lib.decDigits_two h1 hx,Lib.decDigits_two h2 hy] at h
  have e1:=congrArg UInt8.toNat (List.cons.inj h).1
  have e2:=congrArg UInt8.toNat (List.cons.inj (List.cons.inj h).2).1
  simp at e1 e2
  omega
theorem dig_len {x:Nat}(h:x<100):(Lib.decDigits x).length≤2:=by
 by_cases h1:x<10
 ·rw [Lib.decDigits_one h1];simp
 ·rw [Lib.decDigits_two h1 h];simp
theorem dig_digit {x:Nat}(h:x<100):∀ b∈Lib.decDigits x,48≤b.toNat∧b.toNat≤57:=by
 intro b hm
 by_cases h1:x<10
 ·rw [Lib.decDigits_one h1] at hm
  rw [List.mem_singleton.1 hm]
  simp
  omega
 ·rw [Lib.decDigits_two h1 h] at hm
  rcases List.mem_cons.1 hm with e|e
  ·rw [e];simp;omega
  ·rw [List.mem_singleton.1 e];simp;omega
theorem dig_nil {x:Nat}(h:x<100):Lib.decDigits x≠[]:=by
 by_cases h1:x<10
 ·rw [Lib.decDigits_one h1];simp
 ·rw [Lib.decDigits_two h1 h];simp
def E (es:List Edg) (i l k:Nat):Prop:=∃ e∈es,e.fr=i∧e.le=l∧e.ta=k
def rel (R:List Nat) (i j:Nat):Prop:=i<R.length∧(R.getD i 0).testBit j=true
def succ (es:List Edg) (i l:Int):Nat:=es.foldl (fun m e=>if e.fr=i∧e.le=l then m|||2 ^ e.ta.toNat else m) 0
theorem foldl_bit (es:List Edg) (p:Edg→Prop) [DecidablePred p] (m k:Nat):(es.foldl (fun m e=>if p e then m|||2 ^ e.ta.toNat else m) m).testBit k=true↔m.testBit k=true∨∃ e∈es,p e∧e.ta.toNat=k:=by
 induction es generalizing m with
 |nil=>simp
 |cons e r ih =>
  rw [List.foldl_cons,ih]
  by_cases hp:p e
  ·rw [if_pos hp,Nat.testBit_or,Nat.testBit_two_pow]
   simp only [Bool.or_eq_true,decide_eq_true_eq,List.mem_cons]
   constructor
   ·rintro ((h|h)|⟨e',h1,h2⟩)
    ·exact Or.inl h
    ·exact Or.inr ⟨e,Or.inl rfl,hp,h⟩
    ·exact Or.inr ⟨e',Or.inr h1,h2⟩
   ·rintro (h|⟨e',h1|h1,h2⟩)
    ·exact Or.inl (Or.inl h)
    ·subst h1;exact Or.inl (Or.inr h2.2)
    ·exact Or.inr ⟨e',h1,h2⟩
  ·rw [if_neg hp]
   constructor
   ·rintro (h|⟨e',h1,h2⟩)
    ·exact Or.inl h
    ·exact Or.inr ⟨e',List.mem_cons_of_mem _ h1,h2⟩
   ·rintro (h|⟨e',h1,h2⟩)
    ·exact Or.inl h
    ·rcases List.mem_cons.1 h1 with h1|h1
     ·subst h1;exact absurd h2.1 hp
     ·exact Or.inr ⟨e',h1,h2⟩
theorem zfm (es:List Edg) (i l:Int) (k:Nat):(succ es i l).testBit k=true↔∃ e∈es,(e.fr=i∧e.le=l)∧e.ta.toNat=k:=by
 have:=foldl_bit es (fun e=>e.fr=i∧e.le=l) 0 k
 simpa [succ] using this
def Few (n:Nat) (es:List Edg):Prop:=∀ e∈es,(0≤e.fr∧e.fr<n)∧(0≤e.le∧e.le<6)∧(0≤e.ta∧e.ta<n)
theorem succ_lt {n:Nat} {es:List Edg}(h:Few n es) (i l:Int):succ es i l<2 ^ n:=by
 apply Nat.lt_pow_two_of_testBit
 intro k hk
 rw [Bool.eq_false_iff]
 intro hb
 obtain⟨e,he,_,h3⟩:=(zfm es i l k).1 hb
 have:=h e he
 omega
theorem zaH {a n k:Nat}:k∈letters a n↔k<n∧a.testBit k=true:=by simp [letters]
def zbh (c:UInt8):List UInt8→List (List UInt8)
 |[]=>[[]]
 |b :: t=>if b=c then [] :: zbh c t else match zbh c t with
  |[]=>[[b]]
  |h :: r=>(b :: h) :: r
section
variable {c:UInt8}
theorem zcL:∀ {u:List UInt8},c∉u→zbh c u=[u]
 |[],_=>rfl
 |b :: t,h=>by
  have hb:¬ b=c:=fun e=>h (by simp [e])
  rw [zbh,if_neg hb,zcL (fun hc=>h (by simp [hc]))]
theorem zee:∀ {u v:List UInt8},c∉u→zbh c (u++c :: v)=u :: zbh c v
 |[],v,_=>by rw [List.nil_append,zbh,if_pos rfl]
 |b :: t,v,h=>by
  have hb:¬ b=c:=fun e=>h (by simp [e])
  rw [List.cons_append,zbh,if_neg hb,zee (fun hc=>h (by simp [hc]))]
theorem zfu:∀ {r:List (List UInt8)} {u:List UInt8},c∉u→(∀ x∈r,c∉x)→zbh c (u++r.flatMap (c :: ·))=u :: r
 |[],u,h,_=>by rw [List.flatMap_nil,List.append_nil,zcL h]
 |x :: r,u,h,hr=>by
  rw [List.flatMap_cons,List.cons_append,zee h,zfu (hr x (by simp)) (fun y hy=>hr y (by simp [hy]))]
end
def zaQ:List Nat→List UInt8
 |[]=>[]
 |x :: r=>keyL Lib.decDigits x r
def zgG (b:Bool) (r:List Int):List UInt8:=(if b then 43 else 45) :: zaQ (r.map Int.toNat)
def alX (al:Nat):List UInt8:=if al=0 then [45] else (letters al 6).map fun l=>UInt8.ofNat (97+l)
def zbO (a:Aut):List (List UInt8):=(a.next.zip a.acc).map fun p=>zgG p.2 p.1
def zcd (a:Aut):List UInt8:=if zh a then alX a.al.toNat++(zbO a).flatMap (32 :: ·) else []
theorem join_mem {r:List Nat}(hr:∀ x∈r,x<100):∀ b∈zaQ r,b=44∨48≤b.toNat∧b.toNat≤57:=by
 intro b hb
 cases r with
 |nil=>simp [zaQ] at hb
 |cons x r =>
  unfold zaQ keyL at hb
  rcases List.mem_append.1 hb with h|h
  ·exact .inr (dig_digit (hr x (by simp)) b h)
  ·obtain⟨y,hy,h⟩:=List.mem_flatMap.1 h
   rcases List.mem_cons.1 h with h|h
   ·exact .inl h
   ·exact .inr (dig_digit (hr y (by simp [hy])) b h)
theorem join_cut {x:Nat} {r:List Nat}(hx:x<100)(hr:∀ x∈r,x<100):zbh 44 (zaQ (x :: r))=(x :: r).map Lib.decDigits:=by
 have e:zaQ (x :: r)=Lib.decDigits x++(r.map Lib.decDigits).flatMap (44 :: ·):=by
  show keyL _ _ _=_
  unfold keyL
  rw [List.flatMap_map]
 rw [e,zfu (zfv hx) (fun y hy=>by
  obtain⟨z,hz,rfl⟩:=List.mem_map.1 hy
  exact zfv (hr z hz))]
 rfl
theorem join_nil {r:List Nat}(hr:∀ x∈r,x<100)(h:zaQ r=[]):r=[]:=by
 cases r with
 |nil=>rfl
 |cons x r =>
  unfold zaQ keyL at h
  exact absurd (List.append_eq_nil_iff.1 h).1 (dig_nil (hr x (by simp)))
theorem join_inj {r t:List Nat}(hr:∀ x∈r,x<100)(ht:∀ x∈t,x<100)(h:zaQ r=zaQ t):r=t:=by
 cases r with
 |nil=>exact (join_nil ht h.symm).symm
 |cons x r=>cases t with
  |nil=>exact join_nil hr h
  |cons y t =>
   obtain⟨rfl,rfl⟩:=keyL_inj (B:=100) (fun x hx=>zfv hx) (fun x y hx hy=>dig_inj hx hy) (hr x (by simp)) (ht y (by simp)) (fun z hz=>hr z (by simp [hz])) (fun z hz=>ht z (by simp [hz])) h
   rfl
def RowS (r:List Int):Prop:=∀ q∈r,0≤q∧q<100
theorem RowS.nat {r:List Int}(h:RowS r):∀ x∈r.map Int.toNat,x<100:=fun x hx=>by
 obtain⟨q,hq,rfl⟩:=List.mem_map.1 hx
 have:=h q hq
 omega
theorem RowS.inj:∀ {r t:List Int},RowS r→RowS t→r.map Int.toNat=t.map Int.toNat→r=t
 |[],[],_,_,_=>rfl
 |[],_ :: _,_,_,h=>by simp at h
 |_ :: _,[],_,_,h=>by simp at h
 |x :: r,y :: t,hr,ht,h=>by
  rw [List.map_cons,List.map_cons,List.cons.injEq] at h
  have h1:=hr x (by simp)
  have h2:=ht y (by simp)
  rw [RowS.inj (fun q hq=>hr q (by simp [hq])) (fun q hq=>ht q (by simp [hq])) h.2,show x=y by omega]
theorem row_inj {b c:Bool} {r t:List Int}(hr:RowS r)(ht:RowS t)(h:zgG b r=zgG c t):b=c∧r=t:=by
 unfold zgG at h
 rw [List.cons.injEq] at h
 exact⟨by cases b<;>cases c<;>simp_all,hr.inj ht (join_inj hr.nat ht.nat h.2)⟩
theorem row_space {b:Bool} {r:List Int}(hr:RowS r):(32:UInt8)∉zgG b r:=by
 intro h
 rcases List.mem_cons.1 h with h|h
 ·cases b<;>simp at h
 ·rcases join_mem hr.nat _ h with h|h
  ·exact absurd h (by decide)
  ·exact absurd h.1 (by decide)
theorem al_space {al:Nat}:(32:UInt8)∉alX al:=by
 unfold alX
 split
 ·decide
 ·intro h
  obtain⟨l,hl,e⟩:=List.mem_map.1 h
  have h6:=(zaH.1 hl).1
  have:=congrArg UInt8.toNat e
  simp at this
  omega
theorem al_ne {al:Nat}(h:al<64):alX al≠[]:=by
 have:∀ al<64,alX al≠[]:=by decide +kernel
 exact this al h
theorem al_inj {a b:Nat}(ha:a<64)(hb:b<64)(h:alX a=alX b):a=b:=by
 have:∀ a<64,∀ b<64,alX a=alX b→a=b:=by decide +kernel
 exact this a ha b hb h
theorem zip_inj {α β:Type}:∀ {a c:List α} {b d:List β},a.length=b.length→c.length=d.length→a.zip b=c.zip d→a=c∧b=d
 |[],[],[],[],_,_,_=>⟨rfl,rfl⟩
 |[],_ :: _,[],_ :: _,_,_,h=>by simp at h
 |_ :: _,[],_ :: _,[],_,_,h=>by simp at h
 |x :: a,y :: c,u :: b,v :: d,h1,h2,h=>by
  rw [List.zip_cons_cons,List.zip_cons_cons,List.cons.injEq,Prod.mk.injEq] at h
  obtain⟨e1,e2⟩:=zip_inj (by simpa using h1) (by simpa using h2) h.2
  exact⟨by rw [h.1.1,e1],by rw [h.1.2,e2]⟩
 |[],_,_ :: _,_,h,_,_=>by simp at h
 |_ :: _,_,[],_,h,_,_=>by simp at h
 |_,[],_,_ :: _,_,h,_=>by simp at h
 |_,_ :: _,_,[],_,h,_=>by simp at h
theorem map_inj {α β:Type} {f:α→β}:∀ {r t:List α},(∀ x∈r,∀ y∈t,f x=f y→x=y)→r.map f=t.map f→r=t
 |[],[],_,_=>rfl
 |[],_ :: _,_,h=>by simp at h
 |_ :: _,[],_,h=>by simp at h
 |x :: r,y :: t,hf,h=>by
  rw [List.map_cons,List.map_cons,List.cons.injEq] at h
  rw [hf x (by simp) y (by simp) h.1,map_inj (fun a ha b hb=>hf a (by simp [ha]) b (by simp [hb])) h.2]
theorem zN {a:Aut}(h:zh a=true):0≤a.al∧a.al.toNat<64∧a.next.length=a.acc.length∧a.next.length≤12∧1≤a.next.length∧∀ r∈a.next,RowS r∧r.length≤6:=by
 simp only [zh,Bool.and_eq_true,decide_eq_true_eq,List.all_eq_true,zhk] at h
 obtain⟨h1,h2,h3,h4⟩:=h
 refine⟨h1.1,by omega,h3.symm,h2.2,h2.1,fun r hr=>⟨fun q hq=>?_,?_⟩⟩
 ·have:=(h4 r hr).2 q hq
  omega
 ·have:=(h4 r hr).1
  have:=zq a.al.toNat 6
  omega
theorem txt_cut {a:Aut}(h:zh a=true):zbh 32 (zcd a)=alX a.al.toNat :: zbO a:=by
 obtain⟨h0,h1,h2,h3,h4,h5⟩:=zN h
 unfold zcd
 rw [if_pos h]
 refine zfu al_space (fun x hx=>?_)
 obtain⟨p,hp,rfl⟩:=List.mem_map.1 hx
 exact row_space (h5 p.1 (List.of_mem_zip hp).1).1
theorem txt_ne {a:Aut}(h:zh a=true):zcd a≠[]:=by
 intro e
 unfold zcd at e
 rw [if_pos h] at e
 exact al_ne (zN h).2.1 (List.append_eq_nil_iff.1 e).1
theorem txt_inj {a b:Aut}(ha:zh a=true)(hb:zh b=true)(h:zcd a=zcd b):a=b:=by
 obtain⟨a0,a1,a2,a3,a4,a5⟩:=zN ha
 obtain⟨b0,b1,b2,b3,b4,b5⟩:=zN hb
 have e:=txt_cut ha
 rw [h,txt_cut hb,List.cons.injEq] at e
 have e1:=al_inj b1 a1 e.1
 have e2:=map_inj (fun x hx y hy h=>by
  obtain⟨h1,h2⟩:=row_inj (b5 x.1 (List.of_mem_zip hx).1).1 (a5 y.1 (List.of_mem_zip hy).1).1 h
  exact Prod.ext h2 h1) e.2
 obtain⟨e3,e4⟩:=zip_inj b2 a2 e2
 cases a
 cases b
 simp only [Aut.mk.injEq]
 simp only at e1 e3 e4 a0 b0
 exact⟨by omega,e3.symm,e4.symm⟩
def zbw:List UInt8:=[104,111,108,100,115,32]
def zbV:List UInt8:=[102,97,105,108,115,32]
def zdc (x:ByteArray):List UInt8:=if x.toList.isEmpty then [45] else x.data.toList
def zea (hd:Bool) (a:Aut) (x:ByteArray):List UInt8:=if zw hd a x then (if hd then zbw++zcd a else zbV++zdc x) else []
theorem none_eq {a:Aut}(h:zcp a=true):a=⟨0,[],[]⟩:=by
 simp only [zcp,Bool.and_eq_true,decide_eq_true_eq,List.length_eq_zero_iff] at h
 cases a
 simp only [Aut.mk.injEq]
 exact h
theorem zfY {x:ByteArray}(h:zaO x=true):x.data.toList≠[45]:=by
 intro e
 simp only [zaO,Bool.and_eq_true,List.all_eq_true] at h
 have:=h.2 45 (by rw [e];simp)
 simp [zbC] at this
theorem word_inj {x y:ByteArray}(hx:zaO x=true)(hy:zaO y=true)(h:zdc x=zdc y):x=y:=by
 unfold zdc at h
 rw [ByteArray.toList_eq,ByteArray.toList_eq] at h
 have key:x.data.toList=y.data.toList:=by
  cases hX:x.data.toList with
  |nil=>cases hY:y.data.toList with
   |nil=>rfl
   |cons b t =>
    rw [hX,hY] at h
    exact absurd (by simpa using h.symm:(b :: t)=[45]) (by rw [← hY];exact zfY hy)
  |cons b t=>cases hY:y.data.toList with
   |nil =>
    rw [hX,hY] at h
    exact absurd (by simpa using h:(b :: t)=[45]) (by rw [← hX];exact zfY hx)
   |cons c u=>rw [hX,hY] at h;simpa using h
 cases x
 cases y
 exact congrArg ByteArray.mk (Array.toList_inj.1 key)
theorem empty_eq {x y:ByteArray}(hx:x.toList.isEmpty=true)(hy:y.toList.isEmpty=true):x=y:=by
 rw [ByteArray.toList_eq,List.isEmpty_iff] at hx hy
 cases x
 cases y
 exact congrArg ByteArray.mk (Array.toList_inj.1 (hx.trans hy.symm))
theorem cert_inj {hd gd:Bool} {a b:Aut} {x y:ByteArray}(h1:zw hd a x=true)(h2:zw gd b y=true)(h:zea hd a x=zea gd b y):hd=gd∧a=b∧x=y:=by
 unfold zea at h
 rw [if_pos h1,if_pos h2] at h
 cases hd<;>cases gd
 ·simp only [zw,Bool.false_eq_true,if_false,Bool.and_eq_true] at h1 h2
  simp only [Bool.false_eq_true,if_false] at h
  exact⟨rfl,(none_eq h1.1).trans (none_eq h2.1).symm,word_inj h1.2 h2.2 (List.append_cancel_left h)⟩
 ·simp [zbw,zbV] at h
 ·simp [zbw,zbV] at h
 ·simp only [zw,if_true,Bool.and_eq_true] at h1 h2
  simp only [if_true] at h
  exact⟨rfl,txt_inj h1.1 h2.1 (List.append_cancel_left h),empty_eq h1.2 h2.2⟩
theorem cert_ne {hd:Bool} {a:Aut} {x:ByteArray}(h:zw hd a x=true):zea hd a x≠[]:=by
 unfold zea
 rw [if_pos h]
 cases hd<;>simp [zbw,zbV]
theorem zfy (c:UInt8):∀ s:List UInt8,(c∉s∧Lib.index s [c] = -1)∨∃ u v,s=u++c :: v∧c∉u∧Lib.index s [c]=u.length:=by
 intro s
 induction s with
 |nil=>exact .inl ⟨by simp,by rw [Lib.index_one];rfl⟩
 |cons b t ih =>
  by_cases hb:b=c
  ·subst hb
   refine .inr ⟨[],t,rfl,by simp,?_⟩
   rw [Lib.index_one]
   simp [Lib.indexByte]
  ·rw [Lib.index_one] at ih ⊢
   rcases ih with ⟨h1,h2⟩|⟨u,v,h1,h2,h3⟩
   ·refine .inl ⟨?_,?_⟩
    ·intro h
     rcases List.mem_cons.1 h with h|h
     ·exact hb h.symm
     ·exact h1 h
    ·simp [Lib.indexByte,hb,h2]
   ·refine .inr ⟨b :: u,v,by rw [h1];rfl,?_,?_⟩
    ·intro h
     rcases List.mem_cons.1 h with h|h
     ·exact hb h.symm
     ·exact h2 h
    ·have h4:¬ ((u.length:Int) = -1):=by omega
     simp [Lib.indexByte,hb,h3]
theorem split_cut (c:UInt8):∀ (k:Nat) (s:List UInt8),s.length≤k→Lib.split s [c]=zbh c s:=by
 intro k
 induction k with
 |zero =>
  intro s hs
  obtain rfl:s=[]:=List.eq_nil_of_length_eq_zero (by omega)
  rcases zfy c [] with ⟨-,h⟩|⟨u,v,h,-⟩
  ·unfold Lib.split
   rw [Lib.count_miss h]
   rfl
  ·simp at h
 |succ k ih =>
  intro s hs
  rcases zfy c s with ⟨h1,h2⟩|⟨u,v,rfl,h1,h2⟩
  ·unfold Lib.split
   rw [Lib.count_miss h2,zcL h1]
   rfl
  ·have hd:(u++c :: v).drop (u.length+[c].length)=v:=by simp
   unfold Lib.split
   rw [Lib.count_hit (by simp) h2,hd,Nat.add_comm,Lib.splitK,h2,if_neg (by simp),zee h1]
   have hv:v.length≤k:=by simp at hs;omega
   have e:=ih v hv
   unfold Lib.split at e
   rw [Int.toNat_natCast,hd,e,Nat.add_zero,List.take_left]
theorem split_bytes (c:UInt8) (s:ByteArray):(Lib.splitB ⟨#[c]⟩ 0 (Lib.countB s ⟨#[c]⟩) s).map (fun x=>x.data.toList)=zbh c s.data.toList:=by
 rw [Lib.splitB_data]
 exact split_cut c _ s.data.toList (Nat.le_refl _)
section
variable {P:Program} {ops:Array Oper} {Q:Exit→Act→World→Prop} {md:Region.Mode} {S:Array Bool→World→Prop}
def wpAnyL (P:Program) (md:Region.Mode) (ops:Array Oper) (Q:Exit→Act→World→Prop) (S:Array Bool→World→Prop):Nat→Array Bool→Act→World→Prop
 |0,listed,a,w=>Region.ready md ops listed=[]∧Q .normal a w
 |fuel+1,listed,a,w =>
  (Region.ready md ops listed=[]→Q .normal a w) ∧
  ∀ i∈Region.ready md ops listed,wpOp P ops Q i (fun a' w'=>S (listed.setIfInBounds i true) w'∧wpAnyL P md ops Q S fuel (listed.setIfInBounds i true) a' w') a w
theorem zeH:∀ (fuel:Nat) (listed:Array Bool) (a:Act) (w:World),wpAnyL P md ops Q S fuel listed a w→wpAny P md ops Q fuel listed a w
 |0,_,_,_,h=>h
 |fuel+1,_,_,_,h=>⟨h.1,fun i hi=>wpOp_mono (fun a' w' h'=>zeH fuel _ a' w' h'.2) (h.2 i hi)⟩
theorem wpAnyL_first {i:Nat} {oi:Oper} {v:Value} {Si:World→Prop} {G:Array Bool→Prop}(hi:ops[i]?=some oi)(hsel:∀ (j:Nat) (o:Oper) cs b,ops[j]?=some o→o.op≠.select cs b)
  (hQ:∀ c a w,Q (.panic c) (a.put oi.dst v) w→Q (.panic c) a w)
  (hG:∀ listed j,j∈Region.ready md ops listed→G listed→G (listed.setIfInBounds j true))
  (hSi:∀ listed w,G listed→listed.getD i true=false→S listed w→Si w)
  (hup:∀ listed w,S listed w→S (listed.setIfInBounds i true) w) (hdn:∀ listed w,listed.getD i true=false→S (listed.setIfInBounds i true) w→S listed w) :
  ∀ (fuel:Nat) (listed:Array Bool) (a:Act) (w:World),G listed →
   (∀ j oj,ops[j]?=some oj→j≠i→listed.getD j true=false→(∀ e∈oj.after,Region.binds md e=true→e.on≠i)→oi.apart ops oj=true) →
   i∈Region.ready md ops listed→YieldsIf P ops Si oi v a→S listed w →
   wpAnyL P md ops Q S fuel (listed.setIfInBounds i true) (a.put oi.dst v) w→wpAnyL P md ops Q S (fuel+1) listed a w:=by
 intro fuel
 induction fuel with
 |zero =>
  intro listed a w hg _ hr hy hS H
  refine⟨fun h=>(by rw [h] at hr;cases hr),fun j hj=>?_⟩
  by_cases hji:j=i
  ·subst hji;exact hy.wpOp hi (hSi _ _ hg (mem_ready.1 hr).1 hS) ⟨hup _ _ hS,H⟩
  ·have:=ready_mono hj hji
   rw [H.1] at this
   cases this
 |succ fuel ih =>
  intro listed a w hg hfree hr hy hS H
  refine⟨fun h=>(by rw [h] at hr;cases hr),fun j hj=>?_⟩
  by_cases hji:j=i
  ·subst hji;exact hy.wpOp hi (hSi _ _ hg (mem_ready.1 hr).1 hS) ⟨hup _ _ hS,H⟩
  ·have h1:=H.2 j (ready_mono hj hji)
   obtain⟨hjun,oj,hoj,hall⟩:=mem_ready.1 hj
   have hnot:∀ e∈oj.after,Region.binds md e=true→e.on≠i:=fun e he hb heq=>by
    have h1:=hall e he hb
    have h0:=(mem_ready.1 hr).1
    rw [heq] at h1
    rcases Nat.lt_or_ge i listed.size with h' | h'
    ·simp [h'] at h0 h1;rw [h0] at h1;cases h1
    ·simp [Array.getElem?_eq_none h'] at h1
   have h2:=wpOp_putIf hoj (hfree j oj hoj hji hjun hnot) (fun cs b=>hsel i oi cs b hi) (fun cs b=>hsel j oj cs b hoj) hQ hy h1
   have hfree':∀ k ok,ops[k]?=some ok→k≠i→(listed.setIfInBounds j true).getD k true=false →
     (∀ e∈ok.after,Region.binds md e=true→e.on≠i)→oi.apart ops ok=true:=fun k ok hk hki hun hno=>by
    refine hfree k ok hk hki ?_ hno
    by_cases hjk:j=k
    ·subst hjk;exact hjun
    ·rw [getD_set_ne true hjk] at hun;exact hun
   have hiun:(listed.setIfInBounds j true).getD i true=false:=by
    rw [getD_set_ne true hji];exact (mem_ready.1 hr).1
   refine wpOp_mono (fun a' w' h3=>?_) h2
   have h4:S (listed.setIfInBounds j true) w':=hdn _ _ hiun (by rw [Array.setIfInBounds_comm _ _ hji];exact h3.2.1)
   refine⟨h4,ih (listed.setIfInBounds j true) a' w' (hG _ _ hj hg) hfree' (ready_mono hr (Ne.symm hji)) h3.1 h4 ?_⟩
   rw [Array.setIfInBounds_comm _ _ hji]
   exact h3.2.2
end
def Clo (l:List Oper) (listed:Array Bool):Prop:=∀ j,listed.getD j false=true→∀ o,l[j]?=some o→∀ e∈o.after,Region.binds .any e=true→listed.getD e.on false=true
def below (l:List Oper):Nat→Nat→Nat→Bool
 |0,_,_=>false
 |f+1,t,i=>match l[t]? with
  |some o=>o.after.any fun e=>Region.binds .any e&&(e.on==i || below l f e.on i)
  |none=>false
theorem zeu {l:List Oper} {listed:Array Bool}(hc:Clo l listed):∀ (f t i:Nat),below l f t i=true→listed.getD t false=true→listed.getD i false=true
 |0,_,_,h,_=>by simp [below] at h
 |f+1,t,i,h,ht=>by
  unfold below at h
  cases ho:l[t]? with
  |none=>simp [ho] at h
  |some o =>
   simp only [ho] at h
   obtain⟨e,he,hb⟩:=Array.any_eq_true'.1 h
   simp only [Bool.and_eq_true,Bool.or_eq_true,beq_iff_eq] at hb
   have h1:=hc t ht o ho e he hb.1
   rcases hb.2 with h2|h2
   ·rw [← h2];exact h1
   ·exact zeu hc f e.on i h2 h1
theorem zaM {l:List Oper} {listed:Array Bool} {j:Nat}(hj:j∈Region.ready .any l.toArray listed)(h:Clo l listed):Clo l (listed.setIfInBounds j true):=by
 intro k hk o ho e he hb
 by_cases hkj:j=k
 ·subst hkj
  obtain⟨_,o',ho',hall⟩:=mem_ready.1 hj
  have:o'=o:=by
   have h1:l[j]?=some o':=by simpa using ho'
   rw [ho] at h1
   exact (Option.some.inj h1).symm
  subst this
  exact getD_set_true (hall e he hb)
 ·rw [getD_set_ne false hkj] at hk
  exact getD_set_true (h k hk o ho e he hb)
def pureOp:Op→Bool
 |.move _ | .assign _ | .pick _ _ _ | .binOp _ _ _ _ _ | .unOp _ _ _ | .fieldAddr _ _ _ | .field _ _ _ | .extract _ _ | .build _ _=>true
 |_=>false
inductive Ord where
 |nil:Ord
 |one:Nat→Ord→Ord
 |two:Nat→Ord→Nat→Ord→Ord
def Ord.of:List Nat→Ord
 |[]=>.nil
 |i :: r=>.one i (Ord.of r)
def Ord.app:List Nat→Ord→Ord
 |[],o=>o
 |i :: r,o=>.one i (Ord.app r o)
def zdA (l:List Oper) (T:List Nat):Ord→Array Bool→Bool
 |.nil,listed=>(Region.ready .any l.toArray listed).isEmpty
 |.one i rest,listed =>
  (match l[i]? with
   |some o=>if zbr o.op then Region.free .any l.toArray listed i&&(Region.ready .any l.toArray listed).contains i&&!T.contains i&&(pureOp o.op || T.all fun t=>below l l.length t i)
    else Region.ready .any l.toArray listed==[i]
   |none=>false)&&zdA l T rest (listed.setIfInBounds i true)
 |.two i r j r',listed=>(i<l.length&&j<l.length&&Region.ready .any l.toArray listed==[i,j])&&(zdA l T r (listed.setIfInBounds i true)&&zdA l T r' (listed.setIfInBounds j true))
def zau (P:Program) (l:List Oper) (T:List Nat) (Q:Exit→Act→World→Prop) (S:World→Prop):Ord→Act→World→Prop
 |.nil,a,w=>Q .normal a w
 |.one i rest,a,w=>match l[i]? with
  |some o=>if zbr o.op then ∃ v,YieldsIf P l.toArray (if pureOp o.op then fun _=>True else S) o v a∧zau P l T Q S rest (a.put o.dst v) w
   else wpOp P l.toArray Q i (fun a' w'=>(T.contains i=false→S w')∧zau P l T Q S rest a' w') a w
  |none=>False
 |.two i r j r',a,w=>wpOp P l.toArray Q i (fun a' w'=>(T.contains i=false→S w')∧zau P l T Q S r a' w') a w∧wpOp P l.toArray Q j (fun a' w'=>(T.contains j=false→S w')∧zau P l T Q S r' a' w') a w
def Ord.len:Ord→Nat
 |.nil=>0
 |.one _ r=>r.len+1
 |.two _ r _ r'=>(if r.len=r'.len then r.len else 0)+1
def Ord.even:Ord→Bool
 |.nil=>true
 |.one _ r=>r.even
 |.two _ r _ r'=>r.len==r'.len&&(r.even&&r'.even)
section
variable {P:Program} {l:List Oper} {Q:Exit→Act→World→Prop} {S:World→Prop} {T:List Nat}
def zcn (T:List Nat) (listed:Array Bool):Prop:=∃ t∈T,listed.getD t false=true
theorem zck (hs:Region.noSelect l.toArray=true)(hQ:∀ (c:List PanicEntry) (a:Act) (d:Tmp) (v:Value) (w:World),Q (.panic c) (a.put (some d) v) w→Q (.panic c) a w) :
  ∀ (ord:Ord) (listed:Array Bool) (a:Act) (w:World),listed.size=l.length→Clo l listed→ord.even=true→zdA l T ord listed=true→(zcn T listed∨S w)→zau P l T Q S ord a w →
   wpAnyL P .any l.toArray Q (fun listed w=>zcn T listed∨S w) ord.len listed a w
 |.nil,listed,a,w,_,_,_,hok,_,h=>by
  simp only [zdA,List.isEmpty_iff] at hok
  exact⟨hok,h⟩
 |.one i rest,listed,a,w,hsz,hc,hev,hok,hS,h=>by
  cases ho:l[i]? with
  |none=>simp [zdA,ho] at hok
  |some o =>
   have hil:i<l.length:=(List.getElem?_eq_some_iff.1 ho).1
   simp only [zdA,ho,Bool.and_eq_true] at hok
   simp only [zau,ho] at h
   by_cases hq:zbr o.op=true
   ·rw [if_pos hq] at hok h
    simp only [Bool.and_eq_true] at hok
    obtain⟨⟨⟨⟨hf,hrd⟩,hnT⟩,hpure⟩,hrest⟩:=hok
    obtain⟨v,hy,hr⟩:=h
    have hmem:i∈Region.ready .any l.toArray listed:=by simpa using hrd
    have hnT':i∉T:=by simpa using hnT
    have hset:∀ listed:Array Bool,zcn T (listed.setIfInBounds i true)↔zcn T listed:=fun listed=>by
     constructor
     ·rintro ⟨t,ht,hl⟩
      refine⟨t,ht,?_⟩
      rwa [getD_set_ne false (by rintro rfl;exact hnT' ht)] at hl
     ·rintro ⟨t,ht,hl⟩
      exact⟨t,ht,getD_set_true hl⟩
    refine wpAnyL_first (G:=fun listed=>Clo l listed∧listed.size=l.length) (by simpa using ho) (Region.noSelect_spec hs)
     (fun c a w h=>by cases hd:o.dst with|none=>rw [hd] at h;exact h|some d=>rw [hd] at h;exact hQ c a d v w h)
     (fun li j hj hg=>⟨zaM hj hg.1,by simpa using hg.2⟩) ?_ (fun li w h=>h.imp (fun x=>(hset li).2 x) id) (fun li w _ h=>h.imp (fun x=>(hset li).1 x) id)
     rest.len listed a w ⟨hc,hsz⟩ (Region.free_spec (by simpa using ho) hf) hmem hy hS ?_
    ·intro li w' hg hun h
     by_cases hp:pureOp o.op=true
     ·rw [if_pos hp];trivial
     ·rw [if_neg hp]
      rcases h with ⟨t,ht,hl⟩|h
      ·exfalso
       simp only [hp,Bool.false_or] at hpure
       have hb:=List.all_eq_true.1 hpure t ht
       have h1:=zeu hg.1 _ _ _ hb hl
       have h2:i<li.size:=by rw [hg.2];exact hil
       simp [h2] at hun h1
       rw [h1] at hun;cases hun
      ·exact h
    ·exact zck hs hQ rest _ _ _ (by simpa using hsz) (zaM hmem hc) hev hrest (hS.imp (fun x=>(hset _).2 x) id) hr
   ·rw [if_neg hq] at hok h
    have hready:Region.ready .any l.toArray listed=[i]:=by simpa using hok.1
    have hmem:i∈Region.ready .any l.toArray listed:=by rw [hready];simp
    refine⟨fun h0=>(by rw [h0] at hready;cases hready),fun j hj=>?_⟩
    rw [hready] at hj
    rw [List.mem_singleton.1 hj]
    refine wpOp_mono (fun a' w' h=>?_) h
    have hS':zcn T (listed.setIfInBounds i true)∨S w':=by
     cases hT:T.contains i
     ·exact Or.inr (h.1 hT)
     ·refine Or.inl ⟨i,by simpa using hT,?_⟩
      have:i<listed.size:=by omega
      simp [this]
    exact⟨hS',zck hs hQ rest _ _ _ (by simpa using hsz) (zaM hmem hc) hev hok.2 hS' h.2⟩
 |.two i r j r',listed,a,w,hsz,hc,hev,hok,hS,h=>by
  simp only [Ord.even,Bool.and_eq_true,beq_iff_eq] at hev
  simp only [zdA,Bool.and_eq_true,decide_eq_true_eq,beq_iff_eq] at hok
  simp only [zau] at h
  obtain⟨⟨⟨hi,hj⟩,hready⟩,hok1,hok2⟩:=hok
  have hlen:(Ord.two i r j r').len=r.len+1:=by simp [Ord.len,hev.1]
  rw [hlen]
  have hm:∀ k,k∈Region.ready .any l.toArray listed↔k=i∨k=j:=fun k=>by rw [hready];simp
  have hS':∀ k w',k<l.length→(T.contains k=false→S w')→zcn T (listed.setIfInBounds k true)∨S w':=fun k w' hk hx=>by
   cases hT:T.contains k
   ·exact Or.inr (hx hT)
   ·refine Or.inl ⟨k,by simpa using hT,?_⟩
    have:k<listed.size:=by omega
    simp [this]
  refine⟨fun h0=>(by rw [h0] at hready;cases hready),fun k hk=>?_⟩
  rcases (hm k).1 hk with hk' | hk'
  ·rw [hk'] at hk ⊢
   refine wpOp_mono (fun a' w' h=>?_) h.1
   exact⟨hS' _ _ hi h.1,zck hs hQ r _ _ _ (by simpa using hsz) (zaM hk hc) hev.2.1 hok1 (hS' _ _ hi h.1) h.2⟩
  ·rw [hk'] at hk ⊢
   refine wpOp_mono (fun a' w' h=>?_) h.2
   have:=zck hs hQ r' _ _ _ (by simpa using hsz) (zaM hk hc) hev.2.2 hok2 (hS' _ _ hj h.1) h.2
   rw [← hev.1] at this
   exact⟨hS' _ _ hj h.1,this⟩
theorem clo_start (l:List Oper):Clo l (Array.replicate l.length false):=by
 intro j hj
 exfalso
 rcases Nat.lt_or_ge j l.length with h|h
 ·simp [h] at hj
 ·simp [Nat.not_lt.2 h] at hj
theorem zgq {id:Nat} {a:Act} {w:World} (S:World→Prop) (T:List Nat) (ord:Ord)(hm:P.follows .mixedOrders=true)(hlen:ord.len=l.length)(hev:ord.even=true)(hs:Region.noSelect l.toArray=true)(hok:zdA l T ord (Array.replicate l.length false)=true)
  (hQ:∀ (c:List PanicEntry) (a:Act) (d:Tmp) (v:Value) (w:World),Q (.panic c) (a.put (some d) v) w→Q (.panic c) a w) (hS:S w.drew) (h:zau P l T Q S ord a w.drew):(Code.region id l.toArray true).wp P Q a w:=by
 refine wp_region_any hm ?_
 have:=zeH _ _ _ _ (zck hs hQ ord _ a w.drew (by simp) (clo_start l) hev hok (Or.inr hS) h)
 rw [hlen] at this
 simpa using this
theorem zay {a:Act} {w:World}(h:Q .normal a w):zau P l T Q S .nil a w:=h
theorem tseq_pure {i:Nat} {rest:Ord} {o:Oper} {v:Value} {a:Act} {w:World}(ho:l[i]?=some o)(hq:zbr o.op=true) (_hp:pureOp o.op=true)(hw:Region.wanted o (yielded l.toArray a.tmps)=true)
  (hy:∀ W,(execOp a.eval o).run P W=.ok (.value v) W) (h:zau P l T Q S rest (a.put o.dst v) w):zau P l T Q S (.one i rest) a w:=by
 simp only [zau,ho,hq,if_true]
 exact⟨v,.inl ⟨hw,fun W _=>hy W⟩,h⟩
theorem tseq_read {i:Nat} {rest:Ord} {o:Oper} {v:Value} {a:Act} {w:World}(ho:l[i]?=some o)(hq:zbr o.op=true)(hp:pureOp o.op=false)(hw:Region.wanted o (yielded l.toArray a.tmps)=true)
  (hy:∀ W,S W→(execOp a.eval o).run P W=.ok (.value v) W) (h:zau P l T Q S rest (a.put o.dst v) w):zau P l T Q S (.one i rest) a w:=by
 simp only [zau,ho,hq,hp,if_true]
 exact⟨v,.inl ⟨hw,hy⟩,h⟩
theorem tseq_skip {i:Nat} {rest:Ord} {o:Oper} {a:Act} {w:World}(ho:l[i]?=some o)(hw:Region.wanted o (yielded l.toArray a.tmps)=false)
  (hS:S w) (h:zau P l T Q S rest (a.put o.dst undef) w):zau P l T Q S (.one i rest) a w:=by
 simp only [zau,ho]
 split
 ·exact⟨undef,.inr ⟨hw,rfl⟩,h⟩
 ·unfold wpOp
  simp only [List.getElem?_toArray,ho,hw,Bool.false_eq_true,if_false]
  exact⟨fun _=>hS,h⟩
theorem zG {i:Nat} {rest:Ord} {o:Oper} {a:Act} {w:World}
  (h:∀ K:Act→World→Prop,Shut (∀ a w,S w→zau P l T Q S rest a w→K a w)→o.wp P a w K Q) (ho:l[i]?=some o:=by rfl) (hq:zbr o.op=false:=by rfl) (hw:Region.wanted o (yielded l.toArray a.tmps)=true:=by rfl):zau P l T Q S (.one i rest) a w:=by
 simp only [zau,ho,hq]
 unfold wpOp
 simp only [List.getElem?_toArray,ho,hw,if_true]
 exact .inl (h _ fun a w hS hW=>⟨fun _=>hS,hW⟩)
theorem zal {i:Nat} {rest:Ord} {o:Oper} {a:Act} {w:World}
  (h:∀ K:Act→World→Prop,Shut (∀ a w,zau P l T Q S rest a w→K a w)→o.wp P a w K Q) (ho:l[i]?=some o:=by rfl) (hq:zbr o.op=false:=by rfl) (hT:T.contains i=true:=by rfl) (hw:Region.wanted o (yielded l.toArray a.tmps)=true:=by rfl):zau P l T Q S (.one i rest) a w:=by
 simp only [zau,ho,hq]
 unfold wpOp
 simp only [List.getElem?_toArray,ho,hw,if_true]
 exact .inl (h _ fun a w hW=>⟨fun hn=>absurd (hn.symm.trans hT) (by decide),hW⟩)
end
section
variable {P:Program} {l:List Oper} {Q:Exit→Act→World→Prop} {S:World→Prop} {T:List Nat}
theorem tseq_both {i j:Nat} {r r':Ord} {o o':Oper} {a:Act} {w:World}
  (h1:∀ K:Act→World→Prop,Shut (∀ a w,S w→zau P l T Q S r a w→K a w)→o.wp P a w K Q) (h2:∀ K:Act→World→Prop,Shut (∀ a w,S w→zau P l T Q S r' a w→K a w)→o'.wp P a w K Q) (ho:l[i]?=some o:=by rfl) (ho':l[j]?=some o':=by rfl) (hw:Region.wanted o (yielded l.toArray a.tmps)=true:=by rfl) (hw':Region.wanted o' (yielded l.toArray a.tmps)=true:=by rfl):zau P l T Q S (.two i r j r') a w:=by
 constructor
 ·unfold wpOp
  simp only [List.getElem?_toArray,ho,hw,if_true]
  exact .inl (h1 _ fun a w hS hW=>⟨fun _=>hS,hW⟩)
 ·unfold wpOp
  simp only [List.getElem?_toArray,ho',hw',if_true]
  exact .inl (h2 _ fun a w hS hW=>⟨fun _=>hS,hW⟩)
end
theorem zaC {P:Program} (wb w:World) {o:Oper} {a:Act} {K:Act→World→Prop} {Q:Exit→Act→World→Prop} (s x:Operand) (t:TypeId)
  (ho:o.op=.call { callee:=.builtin .append,args:=#[s,x],argTypes:=#[t,t] })
  (e:TypeId) (z:Value) (size bytes:Nat) (ht:P.underlying t=some (.slice e)) (hi:(P.info? e).map (fun i=>(i.zero,i.size,i.bytes))=some (some z,size,bytes)) (hzs:z.cells.size=size) (hsz:0<size)
  (v:Value) (n:Nat) (xs:List Value) (us:Array Value) (e':TypeId) (hs:a.eval s=v) (hx:a.eval x=.slice (some ⟨w.heap.size,0,none⟩) 1 1)
  (zhL:wb.heap.size≤w.heap.size) (zhJ:w.ownsRow wb.heap.size e size v n xs) (hus:us.size=size) (h1:∀ u∈us.toList,u.oneCell'=true)
  (h63:n+1≤maxLen) (hbytes:(n+1)*bytes≤140737488355328)
  (h:∀ g cap w',w'.ownsRow wb.heap.size e size (.slice (some ⟨g,0,none⟩) (n+1) cap) (n+1) (xs++us.toList)→w.grownBy w' v.ownBlock→(v.ownBlock=some g∨g=w.heap.size+1)→g<w'.heap.size→K (a.put o.dst (.slice (some ⟨g,0,none⟩) (n+1) cap)) w') :
  o.wp P a (w.alloc (.cells us e')) K Q:=by
 obtain⟨i,hi0,hz0,hz1,hz2⟩:=info_parts hi
 refine wp_append_lies (w.alloc (.cells us e')) s x t ho wb.heap.size e i z size bytes ht hi0 hz0 hz1 hz2 hzs hsz v n xs hs (zhJ.alloc _) ⟨w.heap.size,0,none⟩ 1 1 us.toList hx (by simpa using hus) ?_ h1 (by omega) h63 hbytes (by simp;omega) (w.heap.size+1) (by simp) ?_
 ·intro j u hu
  rw [zH,Nat.zero_add,(Blk.new w e' us).cell]
  simpa using hu
 ·intro g cap w' hown' hg hat hlt
  have hg':w.grownBy w' v.ownBlock:=⟨hg.os,hg.tape,hg.output,Nat.le_trans (by simp) hg.size,fun k hk hne=>(hg.block k (by simp;omega) hne).trans (Below.heap_alloc w _ k hk)⟩
  exact h g cap w' hown' hg' hat hlt
theorem zab {P:Program} (wb w:World) {ops:Array Oper} {rest:List Oper} {o:Oper} {a:Act} {Q:Exit→Act→World→Prop}(hgd:o.guard=none) (s x:Operand) (t:TypeId)
  (ho:o.op=.call { callee:=.builtin .append,args:=#[s,x],argTypes:=#[t,t] })
  (e:TypeId) (z:Value) (size bytes:Nat) (ht:P.underlying t=some (.slice e)) (hi:(P.info? e).map (fun i=>(i.zero,i.size,i.bytes))=some (some z,size,bytes)) (hzs:z.cells.size=size) (hsz:0<size)
  (v:Value) (n:Nat) (xs:List Value) (us:Array Value) (e':TypeId) (hs:a.eval s=v) (hx:a.eval x=.slice (some ⟨w.heap.size,0,none⟩) 1 1)
  (zhL:wb.heap.size≤w.heap.size) (zhJ:w.ownsRow wb.heap.size e size v n xs) (hus:us.size=size) (h1:∀ u∈us.toList,u.oneCell'=true)
  (h63:n+1≤maxLen) (hbytes:(n+1)*bytes≤140737488355328)
  (h:∀ g cap w',w'.ownsRow wb.heap.size e size (.slice (some ⟨g,0,none⟩) (n+1) cap) (n+1) (xs++us.toList)→w.grownBy w' v.ownBlock→(v.ownBlock=some g∨g=w.heap.size+1)→g<w'.heap.size→wpList P ops Q rest (a.put o.dst (.slice (some ⟨g,0,none⟩) (n+1) cap)) w') :
  wpList P ops Q (o :: rest) a (w.alloc (.cells us e')):=
 wpList_plain hgd fun _ hK=>zaC wb w s x t ho e z size bytes ht hi hzs hsz v n xs us e' hs hx zhL zhJ hus h1 h63 hbytes fun g cap w' h2 h3 h4 h5=>hK _ _ (h g cap w' h2 h3 h4 h5)
theorem tQ {A B:Prop}(h:B) (k:Bx B→A:=by
 intro h0
 repeat (first|(refine tseq_skip rfl rfl (by assumption) ?_;simp only [Act.put,List.setIfInBounds_toArray,List.set_cons_zero,List.set_cons_succ])|(refine tseq_pure (v:=?_) rfl rfl rfl rfl (fun X=>?_) ?_;rotate_left;(focus (go_simp<;>with_reducible rfl));simp only [Act.put,List.setIfInBounds_toArray,List.set_cons_zero,List.set_cons_succ])|(refine tseq_read (v:=?_) rfl rfl rfl rfl (fun X hX=>?_) ?_;rotate_left;(focus (go_simp<;>with_reducible rfl));simp only [Act.put,List.setIfInBounds_toArray,List.set_cons_zero,List.set_cons_succ]))
 exact h0.out):A:=k ⟨h⟩
theorem tR {P:Program} {l:List Oper} {Q:Exit→Act→World→Prop} {id:Nat} {a:Act} {w:World} (S:World→Prop) (T:List Nat) (ord:Ord)(h:zau P l T Q S ord a w.drew)(hm:P.follows .mixedOrders=true:=by kernel_rfl)(hlen:ord.len=l.length:=by rfl)(hev:ord.even=true:=by kernel_rfl)(hs:Region.noSelect l.toArray=true:=by kernel_rfl)(hok:zdA l T ord (Array.replicate l.length false)=true:=by kernel_rfl)
  (hQ:∀ (c:List PanicEntry) (a:Act) (d:Tmp) (v:Value) (w:World),Q (.panic c) (a.put (some d) v) w→Q (.panic c) a w:=by exact fun _ _ _ _ _ h=>h) (hS:S w.drew:=by first|assumption|exact (Ext.refl _).drew|exact (Dr.refl _ _).drew|(refine Ext.drew ?_;assumption)):(Code.region id l.toArray true).wp P Q a w:=
 zgq S T ord hm hlen hev hs hok hQ hS h
def Rd (w:World) (R M:Nat):Prop:=
 ∃ (A:Option Addr) (n c p:Nat),p≤M∧n≤2000∧Blk w R 89 #[.slice A n c,.int .i64 p]∧(0<n→∃ g o,A=some ⟨g,o,none⟩∧g<R∧∀ j,j<n→∃ b:Nat,b<256∧w.cell? ⟨g,o+j,none⟩=some (.int .u8 b))
def Dr (R:Nat) (w w':World):Prop:=Frm (fun k=>k=R) w w'
theorem Dr.refl (R:Nat) (w:World):Dr R w w:=Frm.refl _ _
theorem Dr.trans {R:Nat} {a b c:World}(h:Dr R a b) (k:Dr R b c):Dr R a c:=Frm.trans h k
theorem Dr.ext {R:Nat} {a b c:World}(h:Dr R a b) (k:Ext b c):Dr R a c:=Frm.ext h k
theorem Ext.dr {R:Nat} {a b:World}(h:Ext a b):Dr R a b:=h.toFrm
theorem Dr.drew {R:Nat} {a w:World}(h:Dr R a w):Dr R a w.drew:=⟨h.os,h.tape,h.output,h.size,h.block⟩
theorem Dr.drewN {R:Nat} {a w:World}(h:Dr R a w) (n:Nat):Dr R a (w.drewN n):=⟨h.os,h.tape,h.output,h.size,h.block⟩
theorem Dr.alloc {R:Nat} {a w:World}(h:Dr R a w) (o:Obj):Dr R a (w.alloc o):=h.ext ((Ext.refl _).alloc _)
theorem Dr.setNew {R:Nat} {a w:World}(h:Dr R a w) {p:Addr}(hp:a.heap.size≤p.block) (u:Value):Dr R a (w.setCell p u):=
 ⟨h.os,h.tape,h.output,by simpa [World.setCell] using h.size,fun k hk hn=>(Below.heap_setCell _ _ _ _ (by omega)).trans (h.block k hk hn)⟩
theorem Dr.grown {R:Nat} {a w w':World} {row:Option Nat}(h:Dr R a w)(hg:w.grownBy w' row)(hr:∀ k,row=some k→a.heap.size≤k):Dr R a w':=
 ⟨hg.os.trans h.os,hg.tape.trans h.tape,hg.output.trans h.output,Nat.le_trans h.size hg.size,
  fun k hk hn=>(hg.block k (Nat.lt_of_lt_of_le hk h.size) (fun e=>by have:=hr k e.symm;omega)).trans (h.block k hk hn)⟩
theorem Blk.dr {w w':World} {R g:Nat} {t:TypeId} {cs:Array Value}(h:Blk w g t cs)(hb:Dr R w w')(hg:g≠R):Blk w' g t cs:=h.frm hb hg
theorem Dr.cell_some {R:Nat} {w w':World}(h:Dr R w w') {p:Addr} {v:Value}(hv:w.cell? p=some v)(hp:p.block≠R):w'.cell? p=some v:=
 (World.cell?_of_block (w:=w) (h.block _ (World.block_lt_of_cell? w p hv) hp)).trans hv
theorem Rd.ext {w w':World} {R M:Nat}(h:Rd w R M)(hb:Ext w w'):Rd w' R M:=by
 obtain⟨A,n,c,p,hp,hn,hB,hx⟩:=h
 refine⟨A,n,c,p,hp,hn,hB.ext hb,fun h0=>?_⟩
 obtain⟨g,o,e,hg,hc⟩:=hx h0
 exact⟨g,o,e,hg,fun j hj=>by obtain⟨b,hb1,hb2⟩:=hc j hj;exact⟨b,hb1,hb.cell_some hb2⟩⟩
theorem Rd.more {w:World} {R M N:Nat}(h:Rd w R M)(hM:M≤N):Rd w R N:=by
 obtain⟨A,n,c,p,hp,r⟩:=h
 exact⟨A,n,c,p,Nat.le_trans hp hM,r⟩
theorem Rd.lt {w:World} {R M:Nat}(h:Rd w R M):R<w.heap.size:=by
 obtain⟨A,n,c,p,_,_,hB,_⟩:=h
 exact hB.lt
theorem Rd.frm {S:Nat→Prop} {w w':World} {R M:Nat}(h:Rd w R M)(hb:Frm S w w')(hS:∀ k,k≤R→¬ S k):Rd w' R M:=by
 obtain⟨A,n,c,p,hp,hn,hB,hx⟩:=h
 refine⟨A,n,c,p,hp,hn,hB.frm hb (hS R (Nat.le_refl _)),fun h0=>?_⟩
 obtain⟨g,o,e,hg,hc⟩:=hx h0
 exact⟨g,o,e,hg,fun j hj=>by
  obtain⟨b,hb1,hb2⟩:=hc j hj
  exact⟨b,hb1,(World.cell?_of_block (w:=w) (hb.block g (World.block_lt_of_cell? w _ hb2) (hS g (by omega)))).trans hb2⟩⟩
def RetPick (R M:Nat) (n:Int) (w:World) (e:Ending) (w':World):Prop:=∃ k:Nat,e=.returned (.int .i64 k)∧(1≤n→(k:Int)<n)∧(n<1→k=0)∧Rd w' R (M+1)∧Dr R w w'
theorem bits_xor_nat {a b:Nat}(ha:a<4611686018427387904)(hb:b<4611686018427387904):bits .xor .i64 (a:Int) (b:Int)=((a ^^^ b:Nat):Int):=by
 have hx:a ^^^ b<2 ^ 62:=Nat.xor_lt_two_pow (by simpa using ha) (by simpa using hb)
 show IntKind.i64.wrap ((BitVec.ofInt 64 (a:Int) ^^^ BitVec.ofInt 64 (b:Int)).toNat:Int)=_
 rw [BitVec.toNat_xor,zch a (by omega),zch b (by omega),IntKind.wrap_i64]
 omega
theorem zv {R M:Nat} {n:Int} {w:World}(h:Rd w R M)(hM:M≤1000000000) :
  Calls Tryz.prog 36 #[.pointer (some ⟨R,0,none⟩),.int .i64 n] w (RetPick R M n w):=by
 obtain⟨A,m,c,p,hp,hm,hB,hx⟩:=h
 have c0:=hB.cell 0
 have c1:=hB.cell 1
 have f1:=hB.frozen 1
 have hB1:=hB.set_ 1 (.int .i64 ((p:Int)+1))
 have hfr:=Frm.setCell w R 1 (.int .i64 ((p:Int)+1))
 have hpb:(p:Int)≤1000000000:=by omega
 have hRd:Hid (Rd (w.setCell ⟨R,1,none⟩ (.int .i64 ((p:Int)+1))) R (M+1)):=by
  refine za ⟨A,m,c,p+1,by omega,hm,by simpa using hB1,fun h0=>?_⟩
  obtain⟨g,o,e,hg,hc⟩:=hx h0
  exact⟨g,o,e,hg,fun j hj=>by
   obtain⟨b,hb1,hb2⟩:=hc j hj
   exact⟨b,hb1,(World.cell?_of_block (w:=w) (hfr.block g (World.block_lt_of_cell? w _ hb2) (by show ¬ g=R;omega))).trans hb2⟩⟩
 simp only [List.getElem?_toArray,List.getElem?_cons_zero,List.getElem?_cons_succ] at c0 c1
 by_cases hn:n<1
 ·go_enter Tryz.func36,Tryz.ntmps36
  go_wp2
  go_ret
  exact⟨0,rfl,fun h=>by omega,fun _=>rfl,hRd.out,hfr⟩
 ·by_cases h0:m=0
  ·subst h0
   go_enter Tryz.func36,Tryz.ntmps36
   go_wp2
   go_ret
   exact⟨0,rfl,fun h=>by omega,fun _=>rfl,hRd.out,hfr⟩
  ·obtain⟨k,rfl⟩:∃ k:Nat,n=k:=⟨n.toNat,by omega⟩
   have hk1:(1:Int)≤(k:Int):=by omega
   obtain⟨g,o,rfl,hg,hc⟩:=hx (by omega)
   have hgR:¬ g=R:=by omega
   have hm0:(0:Int)<(m:Int):=by omega
   have hm2:(m:Int)≤2000:=by omega
   have he0:((m:Int)==0)=false:=by simp;omega
   have Hc:=za hc
   clear hc hx
   by_cases hpm:p<m
   ·obtain⟨b,hb,hcb⟩:=Hc.out p hpm
    have hb0:(b:Int)<256:=by omega
    have hpm':(p:Int)<(m:Int):=by omega
    have hmod:=za (Int.natCast_emod b k)
    go_enter Tryz.func36,Tryz.ntmps36
    go_wp2
    go_ret
    exact⟨b % k,zan hmod.out.symm,fun _=>by rw [hmod.out];exact Int.emod_lt_of_pos _ (by omega),fun h=>by omega,hRd.out,hfr⟩
   ·have hq1:p % m<m:=Nat.mod_lt _ (by omega)
    have hq2:(p*7+3) % m<m:=Nat.mod_lt _ (by omega)
    have hq3:p / m≤p:=Nat.div_le_self _ _
    obtain⟨b1,hb1,hc1⟩:=Hc.out _ hq1
    obtain⟨b2,hb2,hc2⟩:=Hc.out _ hq2
    have t1:(p:Int).tmod (m:Int)=((p % m:Nat):Int):=by rw [Int.tmod_eq_emod_of_nonneg (by omega)];exact (Int.natCast_emod p m).symm
    have t2:((p:Int)*7+3).tmod (m:Int)=(((p*7+3) % m:Nat):Int):=by rw [Int.tmod_eq_emod_of_nonneg (by omega)];rw [Int.natCast_emod];rfl
    have t3:(p:Int).tdiv (m:Int)=((p / m:Nat):Int):=by rw [Int.tdiv_eq_ediv_of_nonneg (by omega)];exact (Int.natCast_ediv p m).symm
    have hpm':(m:Int)≤(p:Int):=by omega
    have hg0:∀ j,(w.setCell ⟨R,1,none⟩ (.int .i64 ((p:Int)+1))).cell? ⟨g,j,none⟩=w.cell? ⟨g,j,none⟩:=fun j=>by
     refine World.cell?_of_block ?_
     exact Below.heap_setCell _ _ _ _ (fun h=>hgR h)
    have e1:=(hg0 _).trans hc1
    have e2:=(hg0 _).trans hc2
    have d0:(w.setCell ⟨R,1,none⟩ (.int .i64 ((p:Int)+1))).cell? ⟨R,0,none⟩=some (.slice (some ⟨g,o,none⟩) m c):=by simpa using hB1.cell 0
    have T1:=za t1
    have T2:=za t2
    have T3:=za t3
    clear hg0 hc1 hc2 t1 t2 t3 hB hB1
    generalize p % m=q1 at *
    generalize (p*7+3) % m=q2 at *
    generalize p / m=q3 at *
    obtain⟨x,hx⟩:∃ x:Nat,x=b1*131+b2*1117+p*29+q3*53:=⟨_,rfl⟩
    have hxb:x<100000000000:=by omega
    obtain⟨y,hy⟩:∃ y:Nat,Hid (x ^^^ (x / 64)=y):=⟨_,rfl⟩
    have hxor:=za (show bits .xor .i64 (x:Int) ((x:Int) / 64)=(y:Int) by rw [← hy.out];exact bits_xor_nat (a:=x) (b:=x / 64) (by omega) (by omega))
    have hyb:(y:Int)<1099511627776:=by
     have:x ^^^ (x / 64)<2 ^ 40:=Nat.xor_lt_two_pow (by omega) (by omega)
     rw [hy.out] at this
     omega
    have hmod:=za (Int.natCast_emod y k)
    have hX:(b1:Int)*131+(b2:Int)*1117+(p:Int)*29+(q3:Int)*53=(x:Int):=by omega
    have HX:=za hX
    clear hx hX
    go_enter Tryz.func36,Tryz.ntmps36
    go_wp2
    generalize w.setCell ⟨R,1,none⟩ (.int .i64 ((p:Int)+1))=w1 at *
    have t1:=T1.out
    have t2:=T2.out
    have t3:=T3.out
    have a1:IntKind.i64.wrap ((p:Int)*7)=(p:Int)*7:=IntWalk.i64_in _ (by omega)
    have a2:IntKind.i64.wrap ((p:Int)*7+3)=(p:Int)*7+3:=IntWalk.i64_in _ (by omega)
    have a3:IntKind.i64.wrap ((b1:Int)*131)=(b1:Int)*131:=IntWalk.i64_in _ (by omega)
    have a4:IntKind.i64.wrap ((b2:Int)*1117)=(b2:Int)*1117:=IntWalk.i64_in _ (by omega)
    have a5:IntKind.i64.wrap ((b1:Int)*131+(b2:Int)*1117)=(b1:Int)*131+(b2:Int)*1117:=IntWalk.i64_in _ (by omega)
    have a6:IntKind.i64.wrap ((p:Int)*29)=(p:Int)*29:=IntWalk.i64_in _ (by omega)
    have a7:IntKind.i64.wrap ((b1:Int)*131+(b2:Int)*1117+(p:Int)*29)=(b1:Int)*131+(b2:Int)*1117+(p:Int)*29:=IntWalk.i64_in _ (by omega)
    have a8:IntKind.i64.wrap ((q3:Int)*53)=(q3:Int)*53:=IntWalk.i64_in _ (by omega)
    have a9:IntKind.i64.wrap ((b1:Int)*131+(b2:Int)*1117+(p:Int)*29+(q3:Int)*53)=(x:Int):=by rw [HX.out];exact IntWalk.i64_in _ (by omega)
    have i1:(q1:Int)<(m:Int):=by omega
    have i2:(q2:Int)<(m:Int):=by omega
    have i3:(0:Int)≤(q1:Int):=by omega
    have i4:(0:Int)≤(q2:Int):=by omega
    go_quiet (fail)
    clear a1 a2 a3 a4 a5 a6 a7 a8 a9 t1 t2 t3
    have hxo:=hxor.out
    have hxb':(x:Int)<100000000000:=by omega
    go_wp2
    go_ret
    exact⟨y % k,zan hmod.out.symm,fun _=>by rw [hmod.out];exact Int.emod_lt_of_pos _ (by omega),fun h=>by omega,hRd.out,Dr.drewN hfr _⟩
def zF (l:List ByteArray):List Value:=l.map Value.string
theorem zba (l:List ByteArray):(zF l).length=l.length:=by simp [zF]
theorem Reads.dr {w w':World} {R lo hi size n:Nat} {A:Option Addr} {xs:List Value}(h:Reads w lo hi size A n xs)(hb:Dr R w w')(hR:R<lo):Reads w' lo hi size A n xs:=
 h.frm hb (fun k h1 _ h2=>by omega)
def RetNum (R M:Nat) (l:List Int) (w:World) (e:Ending) (w':World):Prop:=∃ x,x∈l∧e=.returned (.int .i64 x)∧Rd w' R (M+1)∧Dr R w w'
def RetOf (R M:Nat) (l:List ByteArray) (w:World) (e:Ending) (w':World):Prop:=∃ x,x∈l∧e=.returned (.string x)∧Rd w' R (M+1)∧Dr R w w'
theorem l19Rd_num {R M lo hi n c:Nat} {A:Option Addr} {l:List Int} {w:World}(h:Rd w R M)(hM:M≤1000000000)(hL:Reads w lo hi 1 A n (ints l))(hlo:R<lo)(hn:0<n) :
  Calls Tryz.prog 128 #[.pointer (some ⟨R,0,none⟩),.slice A n c] w (RetNum R M l w):=by
 have hlen:=hL.len
 have hn1:(1:Int)≤(n:Int):=by omega
 go_enter Tryz.func128,Tryz.ntmps128
 go_wp2_with fail
 refine (zv h hM).mono ?_
 rintro e w1 ⟨k,rfl,hk1,_,hr,hd⟩
 have hkn:=hk1 hn1
 have hkn':k<n:=by omega
 obtain⟨ad,x,rfl,_,_,hx,hc⟩:=(hL.dr hd hlo).int hkn'
 clear hk1
 go_wp2_with fail
 go_ret
 exact⟨x,List.mem_of_getElem? hx.out,rfl,hr,hd⟩
theorem zhd {R M lo hi n c:Nat} {A:Option Addr} {l:List ByteArray} {w:World}(h:Rd w R M)(hM:M≤1000000000)(hL:Reads w lo hi 1 A n (zF l))(hlo:R<lo)(hn:0<n) :
  Calls Tryz.prog 37 #[.pointer (some ⟨R,0,none⟩),.slice A n c] w (RetOf R M l w):=by
 have hlen:=hL.len
 have hn1:(1:Int)≤(n:Int):=by omega
 go_enter Tryz.func37,Tryz.ntmps37
 go_wp2_with fail
 refine (zv h hM).mono ?_
 rintro e w1 ⟨k,rfl,hk1,_,hr,hd⟩
 have hkn:=hk1 hn1
 have hkn':k<n:=by omega
 obtain⟨ad,u,rfl,_,_,hu,hc⟩:=(hL.dr hd hlo).one hkn'
 obtain⟨x,hx,rfl⟩:∃ x,l[k]?=some x∧u=.string x:=by
  have:=hu.out
  simp only [zF,List.getElem?_map,Option.map_eq_some_iff] at this
  obtain⟨x,h1,h2⟩:=this
  exact⟨x,h1,h2.symm⟩
 have Hx:=za hx
 clear hk1 hx
 go_wp2_with fail
 go_ret
 exact⟨x,List.mem_of_getElem? Hx.out,rfl,hr,hd⟩
def Bytes (w:World) (A:Option Addr) (n:Nat):Prop:=0<n→∃ g o,A=some ⟨g,o,none⟩∧g<w.heap.size∧∀ j,j<n→∃ b:Nat,b<256∧w.cell? ⟨g,o+j,none⟩=some (.int .u8 b)
theorem Bytes.ext {w w':World} {A:Option Addr} {n:Nat}(h:Bytes w A n)(hb:Ext w w'):Bytes w' A n:=fun h0=>by
 obtain⟨g,o,e,hg,hc⟩:=h h0
 exact⟨g,o,e,Nat.lt_of_lt_of_le hg hb.size,fun j hj=>by obtain⟨b,h1,h2⟩:=hc j hj;exact⟨b,h1,hb.cell_some h2⟩⟩
def RetOpen (w:World) (e:Ending) (w':World):Prop:=∃ R,e=.returned (.pointer (some ⟨R,0,none⟩))∧w.heap.size≤R∧Rd w' R 0∧Ext w w'
theorem zeN {A:Option Addr} {n c:Nat} {w:World}(h:Bytes w A n)(hn:n≤9223372036854775807)(hc:n≤c)(hc2:c≤9223372036854775807) :
  Calls Tryz.prog 33 #[.slice A n c] w (RetOpen w):=by
 by_cases hb:2000<n
 ·obtain⟨g,o,rfl,hg,hcell⟩:=h (by omega)
  have Hcell:=za hcell
  clear hcell h
  have h1:(2000:Int)<(n:Int):=by omega
  have h2:(2000:Int)≤(c:Int):=by omega
  go_enter Tryz.func33,Tryz.ntmps33
  go_wp2
  go_ret
  refine⟨w.heap.size,rfl,Nat.le_refl _,⟨some ⟨g,o,none⟩,2000,c,0,by omega,by omega,Blk.new _ _ _,fun _=>⟨g,o,rfl,hg,fun j hj=>?_⟩⟩,(Ext.refl _).alloc _⟩
  obtain⟨b,h1,h2⟩:=Hcell.out j (by omega)
  exact⟨b,h1,((Ext.refl w).alloc _).cell_some h2⟩
 ·have Hh:=za h
  clear h
  have h1:(n:Int)≤2000:=by omega
  go_enter Tryz.func33,Tryz.ntmps33
  go_wp2
  go_ret
  refine⟨w.heap.size,rfl,Nat.le_refl _,⟨A,n,c,0,by omega,by omega,Blk.new _ _ _,fun h0=>?_⟩,(Ext.refl _).alloc _⟩
  obtain⟨g,o,e,hg,hc⟩:=Hh.out h0
  exact⟨g,o,e,hg,fun j hj=>by obtain⟨b,h1,h2⟩:=hc j hj;exact⟨b,h1,((Ext.refl w).alloc _).cell_some h2⟩⟩
end Go.Proofs.YtfcjhpodichpjaaGreatDoor
