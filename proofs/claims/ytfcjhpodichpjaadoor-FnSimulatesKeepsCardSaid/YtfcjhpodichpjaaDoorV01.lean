/- Plain lemmas -/
import Derived.WalkKit
import Derived.WalkSpells
import Derived.WalkLawsBesides
import Derived.BigQuiet
import Derived.Deep.QuietTactic
import Derived.Deep.RegionWith
import Derived.Deep.RegionHeld3
import Derived.Deep.AppendLies
import Derived.Deep.Draws
import Derived.Laws.OwnMore
import Derived.Laws.BitsAllLaws
import Derived.Laws.BitsLemmas
import Derived.Maps.AppendAt
import Derived.Test.YtfcjhpodichpjaaDoorRows
import Derived.OrdersHeld
import Derived.ProofKit
import Derived.Deep.Slices
import Derived.Deep.Fields
import Derived.ChangeSame
import Derived.ChangeArms
import Derived.Lib.SmallJoins
import Derived.OpenShut
import Derived.ShutString
import Derived.ChangeOld
import Derived.Lib.TrailingZeros
import Derived.Shelf.Spec.TrailingZeros
import Derived.Lib.LaidTab
import Derived.LaidMore
import Derived.Stop.Joined
import Derived.Stop.LaidErr
import Derived.Lib.SliceRun
import Derived.Deep.DeepCutAuto
import Derived.IntWalk
set_option maxHeartbeats 2000000
set_option maxRecDepth 100000
namespace Go.Proofs.YtfcjhpodichpjaaDoor
open Go Go.RowKit
theorem za {p:Prop}(h:p):Hid p:=h
structure Bx (p:Prop):Prop where
 out:p
theorem pT {A B:Prop}(h:B) (k:Bx B→A:=by
 intro h0
 try simp only [Act.put,List.setIfInBounds_toArray,List.set_cons_zero,List.set_cons_succ]
 exact h0.out):A:=k ⟨h⟩
theorem zdK (a:Addr) (n:Nat):(a.add n).block=a.block:=by unfold Addr.add;split<;>rfl
theorem addr_zero (a:Addr):a.add 0=a:=by simp [Addr.add]
theorem zP (g o n:Nat):(⟨g,o,none⟩:Addr).add n=⟨g,o+n,none⟩:=by unfold Addr.add;split<;>simp_all
structure Frm (S:Nat→Prop) (w w':World):Prop where
 os:w'.os=w.os
 tape:w'.tape=w.tape
 output:w'.output=w.output
 size:w.heap.size≤w'.heap.size
 block:∀ k,k<w.heap.size→¬ S k→w'.heap[k]?=w.heap[k]?
def Ext (w w':World):Prop:=Frm (fun _=>False) w w'
theorem Ext.refl (w:World):Ext w w:=⟨rfl,rfl,rfl,Nat.le_refl _,fun _ _ _=>rfl⟩
theorem Ext.trans {a b c:World}(h:Ext a b) (k:Ext b c):Ext a c:=
 ⟨k.os.trans h.os,k.tape.trans h.tape,k.output.trans h.output,Nat.le_trans h.size k.size,fun i hi hn=>(k.block i (Nat.lt_of_lt_of_le hi h.size) hn).trans (h.block i hi hn)⟩
theorem Ext.drew {a w:World}(h:Ext a w):Ext a w.drew:=⟨h.os,h.tape,h.output,h.size,h.block⟩
theorem Ext.drewN {a w:World}(h:Ext a w) (n:Nat):Ext a (w.drewN n):=⟨h.os,h.tape,h.output,h.size,h.block⟩
theorem Ext.alloc {a w:World}(h:Ext a w) (o:Obj):Ext a (w.alloc o):=
 h.trans ⟨rfl,rfl,rfl,by simp,fun k hk _=>Below.heap_alloc _ _ _ hk⟩
theorem Ext.setCell {a w:World}(h:Ext a w) {p:Addr}(hp:a.heap.size≤p.block) (u:Value):Ext a (w.setCell p u):=
 ⟨h.os,h.tape,h.output,by simpa [World.setCell] using h.size,fun k hk hn=>(Below.heap_setCell _ _ _ _ (by omega)).trans (h.block k hk hn)⟩
theorem Ext.grown {a w w':World} {row:Option Nat}(h:Ext a w)(hg:w.grownBy w' row)(hr:∀ k,row=some k→a.heap.size≤k):Ext a w':=
 ⟨hg.os.trans h.os,hg.tape.trans h.tape,hg.output.trans h.output,Nat.le_trans h.size hg.size,
  fun k hk hn=>(hg.block k (Nat.lt_of_lt_of_le hk h.size) (fun e=>by have:=hr k e.symm;omega)).trans (h.block k hk hn)⟩
theorem Ext.heap {w w':World}(h:Ext w w') {k:Nat}(hk:k<w.heap.size):w'.heap[k]?=w.heap[k]?:=h.block k hk id
theorem Ext.cell {w w':World}(h:Ext w w') {p:Addr}(hp:p.block<w.heap.size):w'.cell? p=w.cell? p:=World.cell?_of_block (w:=w) (h.heap hp)
theorem Ext.cell_some {w w':World}(h:Ext w w') {p:Addr} {v:Value}(hv:w.cell? p=some v):w'.cell? p=some v:=
 (h.cell (World.block_lt_of_cell? w p hv)).trans hv
def Blk (w:World) (g:Nat) (t:TypeId) (cs:Array Value):Prop:=w.heap[g]?=some (.cells cs t (0,0))
section
variable {w w':World} {g:Nat} {t:TypeId} {cs:Array Value}
theorem Blk.lt (h:Blk w g t cs):g<w.heap.size:=by
 rcases Nat.lt_or_ge g w.heap.size with hlt|hge
 ·exact hlt
 ·unfold Blk at h;rw [Array.getElem?_eq_none hge] at h;cases h
theorem Blk.cell (h:Blk w g t cs) (i:Nat):w.cell? ⟨g,i,none⟩=cs[i]?:=cell_of_row w g i cs t (0,0) h
theorem Blk.frozen (h:Blk w g t cs) (i:Nat):w.frozen? ⟨g,i,none⟩=false:=by
 unfold Blk at h
 simp [World.frozen?,h]
theorem Blk.new (w:World) (t:TypeId) (cs:Array Value):Blk (w.alloc (.cells cs t)) w.heap.size t cs:=heap_alloc_new w _
theorem Blk.ext (h:Blk w g t cs)(hb:Ext w w'):Blk w' g t cs:=(hb.heap h.lt).trans h
theorem Blk.cells (h:Blk w g t cs):∀ W,Ext w W→∀ i,W.cell? ⟨g,i,none⟩=cs[i]?:=fun _ hW=>(h.ext hW).cell
theorem Blk.frm {S:Nat→Prop}(h:Blk w g t cs)(hb:Frm S w w')(hg:¬ S g):Blk w' g t cs:=(hb.block g h.lt hg).trans h
theorem Blk.set_ (h:Blk w g t cs) (i:Nat) (u:Value):Blk (w.setCell ⟨g,i,none⟩ u) g t (cs.setIfInBounds i u):=by
 unfold Blk at h ⊢
 simp [World.setCell,Array.getElem?_modify,h]
end
theorem zaH {w w':World} {cs:Array Value} {t:TypeId}(h:Ext (w.alloc (.cells cs t)) w'):Blk w' w.heap.size t cs:=(Blk.new w t cs).ext h
theorem zv {w w':World} {cs ds:Array Value} {t u:TypeId}(h:Ext ((w.alloc (.cells cs t)).alloc (.cells ds u)) w'):Blk w' w.heap.size t cs∧Blk w' (w.heap.size+1) u ds:=by
 refine⟨zaH (((Ext.refl _).alloc _).trans h),?_⟩
 have:=zaH h
 simpa using this
theorem ext_blk3 {w w':World} {cs ds es:Array Value} {t u v:TypeId}(h:Ext (((w.alloc (.cells cs t)).alloc (.cells ds u)).alloc (.cells es v)) w'):Blk w' w.heap.size t cs∧Blk w' (w.heap.size+1) u ds∧Blk w' (w.heap.size+1+1) v es:=by
 have h2:=zv (((Ext.refl _).alloc _).trans h)
 refine⟨h2.1,h2.2,?_⟩
 have:=zaH h
 simpa using this
theorem Blk.far {w:World} {g:Nat} {t:TypeId} {cs:Array Value}(h:Blk w g t cs) {p:Addr}(hp:g≠p.block) (u:Value):Blk (w.setCell p u) g t cs:=(Below.heap_setCell w p u g hp).trans h
theorem zbN {w w':World} {cs:Array Value} {t:TypeId}(h:Ext (w.alloc (.cells cs t)) w'):∀ j,w'.cell? ⟨w.heap.size,j,none⟩=cs[j]?:=(zaH h).cell
def Reads (w:World) (lo hi size:Nat) (A:Option Addr) (n:Nat) (xs:List Value):Prop:=
 xs.length=n*size∧n≤9223372036854775807∧(0<n→∃ ad,A=some ad∧lo≤ad.block∧ad.block<hi∧∀ j u,xs[j]?=some u→w.cell? (ad.add j)=some u)
section
variable {w w':World} {lo hi size n:Nat} {A:Option Addr} {xs:List Value}
theorem Reads.nil:Reads w lo hi size A 0 []:=⟨by simp,by omega,fun h=>absurd h (by omega)⟩
theorem Reads.len (h:Reads w lo hi size A n xs):n≤9223372036854775807:=h.2.1
theorem Reads.length (h:Reads w lo hi size A n xs):xs.length=n*size:=h.1
theorem Reads.at_ {k:Nat}(h:Reads w lo hi size A n xs)(hk:k<n):∃ ad,A=some ad∧lo≤ad.block∧ad.block<hi∧∀ j u,xs[j]?=some u→w.cell? (ad.add j)=some u:=h.2.2 (by omega)
theorem Reads.one {k:Nat}(h:Reads w lo hi 1 A n xs)(hk:k<n):∃ ad u,A=some ad∧lo≤ad.block∧ad.block<hi∧Hid (xs[k]?=some u)∧w.cell? (ad.add k)=some u:=by
 obtain⟨ad,e,hl,hb,hc⟩:=h.2.2 (by omega)
 have hx:k<xs.length:=by have:=h.1;omega
 exact⟨ad,xs[k],e,hl,hb,List.getElem?_eq_getElem hx,hc k _ (List.getElem?_eq_getElem hx)⟩
theorem Reads.more {lo' hi':Nat}(h:Reads w lo hi size A n xs)(hL:lo'≤lo)(hH:hi≤hi'):Reads w lo' hi' size A n xs:=
 ⟨h.1,h.2.1,fun hn=>by
  obtain⟨ad,e,hl,hb,hc⟩:=h.2.2 hn
  exact⟨ad,e,by omega,by omega,hc⟩⟩
theorem Reads.ext (h:Reads w lo hi size A n xs)(hb:Ext w w'):Reads w' lo hi size A n xs:=
 ⟨h.1,h.2.1,fun hn=>by
  obtain⟨ad,e,hl,hi,hc⟩:=h.2.2 hn
  exact⟨ad,e,hl,hi,fun j u hu=>hb.cell_some (hc j u hu)⟩⟩
theorem Reads.frm {S:Nat→Prop}(h:Reads w lo hi size A n xs)(hb:Frm S w w')(hS:∀ k,lo≤k→k<hi→¬ S k):Reads w' lo hi size A n xs:=
 ⟨h.1,h.2.1,fun hn=>by
  obtain⟨ad,e,hl,hi,hc⟩:=h.2.2 hn
  refine⟨ad,e,hl,hi,fun j u hu=>?_⟩
  have hcell:=hc j u hu
  have hlt:=World.block_lt_of_cell? w _ hcell
  exact (World.cell?_of_block (w:=w) (hb.block _ hlt (by rw [zdK];exact hS _ hl hi))).trans hcell⟩
theorem Reads.of_own {base:Nat} {e:TypeId} {c:Nat}(h:w.ownsRow base e size (.slice A n c) n xs):Reads w base w.heap.size size A n xs:=by
 rcases h.2 with ⟨h',h0⟩|⟨g,cap,cur,hv,hb,hg,hnc,hcm,_,htake⟩
 ·subst h0
  have hx:xs=[]:=List.eq_nil_of_length_eq_zero (by simpa using h.1)
  subst hx
  exact Reads.nil
 ·have hA:A=some ⟨g,0,none⟩:=by injection hv
  subst hA
  exact⟨h.1,by unfold maxLen at hcm;omega,fun _=>⟨_,rfl,hb,(Array.getElem?_eq_some_iff.1 hg).1,h.cells (g:=g) rfl⟩⟩
end
theorem zI {P:Program} (wb w:World) {ops:Array Oper} {rest:List Oper} {o:Oper} {a:Act} {Q:Exit→Act→World→Prop}(hgd:o.guard=none) (s x:Operand) (t:TypeId)
  (ho:o.op=.call { callee:=.builtin .append,args:=#[s,x],argTypes:=#[t,t] })
  (e:TypeId) (z:Value) (size bytes:Nat) (ht:P.underlying t=some (.slice e)) (hi:(P.info? e).map (fun i=>(i.zero,i.size,i.bytes))=some (some z,size,bytes)) (hzs:z.cells.size=size) (hsz:0<size)
  (v:Value) (n:Nat) (xs:List Value) (us:Array Value) (e':TypeId) (hs:a.eval s=v) (hx:a.eval x=.slice (some ⟨w.heap.size,0,none⟩) 1 1)
  (zer:Ext wb w) (zep:w.ownsRow wb.heap.size e size v n xs) (hus:us.size=size) (h1:∀ u∈us.toList,u.oneCell'=true)
  (h63:n+1≤maxLen) (hbytes:(n+1)*bytes≤140737488355328)
  (h:∀ v' w',Ext wb w'→w'.ownsRow wb.heap.size e size v' (n+1) (xs++us.toList)→w.grownBy w' v.ownBlock→(v'.ownBlock=v.ownBlock∨v'.ownBlock=some (w.heap.size+1))→wpList P ops Q rest (a.put o.dst v') w') :
  wpList P ops Q (o :: rest) a (w.alloc (.cells us e')):=by
 obtain⟨i,hi0,hz0,hz1,hz2⟩:=info_parts hi
 refine wpList_append_own_at (w.alloc (.cells us e')) hgd s x t ho wb.heap.size e i z size bytes ht hi0 hz0 hz1 hz2 hzs hsz v n xs hs (zep.alloc _) ⟨w.heap.size,0,none⟩ 1 1 us.toList hx (by simpa using hus) ?_ h1 h63 hbytes (by have:=zer.size;simp;omega) ?_
 ·intro j u hu
  rw [zP,Nat.zero_add,(Blk.new w e' us).cell]
  simpa using hu
 ·intro v' w' hown' hg _ hat
  have hg':w.grownBy w' v.ownBlock:=⟨hg.os,hg.tape,hg.output,Nat.le_trans (by simp) hg.size,fun k hk hne=>(hg.block k (by simp;omega) hne).trans (Below.heap_alloc w _ k hk)⟩
  exact h v' w' (zer.grown hg' (fun k hk=>(zep.lt k hk).1)) hown' hg' (by simpa using hat)
theorem zbW {P:Program} (wb w:World) {ops:Array Oper} {rest:List Oper} {o:Oper} {a:Act} {Q:Exit→Act→World→Prop}(hgd:o.guard=none) (l c:Operand) (t:TypeId)(ho:o.op=.makeSlice t l c)
  (e:TypeId) (z:Value) (size bytes:Nat) (ht:P.underlying t=some (.slice e)) (hi:(P.info? e).map (fun i=>(i.zero,i.size,i.bytes))=some (some z,size,bytes))
  (kl kc:IntKind) (n:Nat) (hl:a.eval l=.int kl (n:Int)) (hc:a.eval c=.int kc (n:Int)) (zer:Ext wb w) (hbytes:n*bytes≤140737488355328) (h63:n≤maxLen)
  (h:∀ w',Ext wb w'→w'.ownsRow wb.heap.size e size (.slice (some ⟨w.heap.size,0,none⟩) n n) n (madeCells z.cells (n*size)).toList→Ext w w'→w.heap.size<w'.heap.size→wpList P ops Q rest (a.put o.dst (.slice (some ⟨w.heap.size,0,none⟩) n n)) w') :
  wpList P ops Q (o :: rest) a w:=by
 obtain⟨i,hi0,hz0,hz1,hz2⟩:=info_parts hi
 refine wpList_make_full w hgd l c t ho wb.heap.size e i z size ht hi0 hz0 hz1 kl kc n n n hl hc rfl rfl (by rw [hz2,Nat.mul_comm];omega) h63 zer.size ?_
 intro w' zep hg
 refine h w' (zer.grown hg (by simp)) zep ((Ext.refl _).grown hg (by simp)) ?_
 rcases zep.2 with ⟨h',_⟩|⟨g,cap,cur,h',_,hh,_⟩
 ·simp at h'
 ·have:w.heap.size=g:=by injection h' with h1;injection h1 with h1;injection h1
  subst this
  exact (Array.getElem?_eq_some_iff.1 hh).1
theorem zl {w:World} {base:Nat} {e:TypeId} {size:Nat} {v:Value} {n:Nat} {xs:List Value}(h:w.ownsRow base e size v n xs):∃ A c,v=.slice A n c:=by
 rcases h.2 with ⟨rfl,h0⟩|⟨g,cap,cur,rfl,_⟩
 ·exact⟨none,0,by rw [h0]⟩
 ·exact⟨_,_,rfl⟩
theorem zaC (n:Int):∀ u∈(#[Value.int .i64 n]:Array Value).toList,u.oneCell'=true:=by simp [Value.oneCell']
theorem cells_u8 (n:Int):∀ u∈(#[Value.int .u8 n]:Array Value).toList,u.oneCell'=true:=by simp [Value.oneCell']
theorem zaF (A:Option Addr) (n c:Nat):∀ u∈(#[Value.slice A n c]:Array Value).toList,u.oneCell'=true:=by simp [Value.oneCell']
def ints (l:List Int):List Value:=l.map (Value.int .i64)
theorem zde (l:List Int):(ints l).length=l.length:=by simp [ints]
def zL (l:List Bool):List Value:=l.map Value.bool
theorem zcF (l:List Bool):(zL l).length=l.length:=by simp [zL]
theorem ints_get {l:List Int} {k:Nat} {u:Value}(h:(ints l)[k]?=some u):∃ n,l[k]?=some n∧u=.int .i64 n:=by
 simp only [ints,List.getElem?_map,Option.map_eq_some_iff] at h
 obtain⟨n,hn,rfl⟩:=h
 exact⟨n,hn,rfl⟩
theorem bools_get {l:List Bool} {k:Nat} {u:Value}(h:(zL l)[k]?=some u):∃ n,l[k]?=some n∧u=.bool n:=by
 simp only [zL,List.getElem?_map,Option.map_eq_some_iff] at h
 obtain⟨n,hn,rfl⟩:=h
 exact⟨n,hn,rfl⟩
theorem Reads.int {w:World} {lo hi n k:Nat} {A:Option Addr} {l:List Int}(h:Reads w lo hi 1 A n (ints l))(hk:k<n):∃ ad x,A=some ad∧lo≤ad.block∧ad.block<hi∧Hid (l[k]?=some x)∧w.cell? (ad.add k)=some (.int .i64 x):=by
 obtain⟨ad,u,e,hl,hb,hx,hc⟩:=h.one hk
 obtain⟨x,hx',rfl⟩:=ints_get hx.out
 exact⟨ad,x,e,hl,hb,hx',hc⟩
theorem Reads.bool {w:World} {lo hi n k:Nat} {A:Option Addr} {l:List Bool}(h:Reads w lo hi 1 A n (zL l))(hk:k<n):∃ ad x,A=some ad∧lo≤ad.block∧ad.block<hi∧Hid (l[k]?=some x)∧w.cell? (ad.add k)=some (.bool x):=by
 obtain⟨ad,u,e,hl,hb,hx,hc⟩:=h.one hk
 obtain⟨x,hx',rfl⟩:=bools_get hx.out
 exact⟨ad,x,e,hl,hb,hx',hc⟩
def RowsAt (w:World) (lo hi:Nat) (rows:List Value) (ls:List (List Int)):Prop:=
 rows.length=ls.length∧∀ (i:Nat) (row:Value) (l:List Int),rows[i]?=some row→ls[i]?=some l→∃ A c,row=.slice A l.length c∧Reads w lo hi 1 A l.length (ints l)
def zbh (w:World) (lo hi:Nat) (A:Option Addr) (n:Nat) (ls:List (List Int)):Prop:=
 n=ls.length∧∃ rows,Reads w lo hi 1 A n rows∧RowsAt w lo hi rows ls
section
variable {w w':World} {lo hi n k:Nat} {A:Option Addr} {ls:List (List Int)} {rows:List Value}
theorem RowsAt.ext (h:RowsAt w lo hi rows ls)(hb:Ext w w'):RowsAt w' lo hi rows ls:=
 ⟨h.1,fun i row l hr hl=>by
  obtain⟨A,c,e,hx⟩:=h.2 i row l hr hl
  exact⟨A,c,e,hx.ext hb⟩⟩
theorem zbh.ext (h:zbh w lo hi A n ls)(hb:Ext w w'):zbh w' lo hi A n ls:=by
 obtain⟨e,rows,hr,hx⟩:=h
 exact⟨e,rows,hr.ext hb,hx.ext hb⟩
theorem zbh.len (h:zbh w lo hi A n ls):n≤9223372036854775807:=by
 obtain⟨_,rows,hr,_⟩:=h
 exact hr.len
theorem zbh.row (h:zbh w lo hi A n ls)(hk:k<n):∃ ad Ak ck l,A=some ad∧lo≤ad.block∧ad.block<hi∧Hid (ls[k]?=some l)∧w.cell? (ad.add k)=some (.slice Ak l.length ck)∧Reads w lo hi 1 Ak l.length (ints l):=by
 obtain⟨e,rows,hr,hx⟩:=h
 obtain⟨ad,u,eA,hl,hb,hu,hc⟩:=hr.one hk
 have hlt:k<ls.length:=by omega
 obtain⟨Ak,ck,rfl,hrk⟩:=hx.2 k u ls[k] hu.out (List.getElem?_eq_getElem hlt)
 exact⟨ad,Ak,ck,ls[k],eA,hl,hb,List.getElem?_eq_getElem hlt,hc,hrk⟩
end
section
variable {w w':World} {base base' size size' n n':Nat} {e e':TypeId} {v v':Value} {xs xs':List Value}
theorem zm (h:w.ownsRow base e size v n xs)(hb:Ext w w'):w'.ownsRow base e size v n xs:=by
 refine⟨h.1,?_⟩
 rcases h.2 with hn|⟨g,cap,cur,hv,hg,hh,r⟩
 ·exact .inl hn
 ·exact .inr ⟨g,cap,cur,hv,hg,(hb.heap (Array.getElem?_eq_some_iff.1 hh).1).trans hh,r⟩
theorem zj {S:Nat→Prop}(h:w.ownsRow base e size v n xs)(hb:Frm S w w')(hS:∀ b,v.ownBlock=some b→¬ S b):w'.ownsRow base e size v n xs:=by
 refine⟨h.1,?_⟩
 rcases h.2 with hn|⟨g,cap,cur,hv,hg,hh,r⟩
 ·exact .inl hn
 ·exact .inr ⟨g,cap,cur,hv,hg,(hb.block g (Array.getElem?_eq_some_iff.1 hh).1 (hS g (by rw [hv];rfl))).trans hh,r⟩
theorem zaw {S:Nat→Prop}(h:w.ownsRow base e size v n xs)(hb:Frm S w w')(hS:∀ b,base≤b→¬ S b):w'.ownsRow base e size v n xs:=zj h hb fun b hv=>hS b (h.lt b hv).1
theorem zT (h:w.ownsRow base e size v n xs)(hb:base'≤base):w.ownsRow base' e size v n xs:=by
 refine⟨h.1,?_⟩
 rcases h.2 with hn|⟨g,cap,cur,hv,hg,r⟩
 ·exact .inl hn
 ·exact .inr ⟨g,cap,cur,hv,by omega,r⟩
theorem zZ (h:w.ownsRow base e size v n xs)(h':w.ownsRow base' e' size' v' n' xs')(hne:e≠e') {b:Nat}(hb:v.ownBlock=some b):v'.ownBlock≠some b:=by
 rcases h.2 with ⟨rfl,_⟩|⟨g,cap,cur,rfl,_,hh,_⟩
 ·simp [Value.ownBlock] at hb
 ·rcases h'.2 with ⟨rfl,_⟩|⟨g',cap',cur',rfl,_,hh',_⟩
  ·simp [Value.ownBlock]
  ·have hb1:g=b:=by simpa [Value.ownBlock] using hb
   subst hb1
   intro he
   have hg:g'=g:=by simpa [Value.ownBlock] using he
   subst hg
   rw [hh] at hh'
   injection hh' with hh'
   injection hh' with _ ht
   exact hne ht
theorem zav {g n cap:Nat}(h:w.ownsRow base e size (.slice (some ⟨g,0,none⟩) n cap) n xs) (j:Nat)(hj:j<n*size):∃ u,w.cell? ⟨g,j,none⟩=some u:=by
 have hx:j<xs.length:=by rw [h.1];exact hj
 exact⟨xs[j],by rw [h.cellAt j hj,List.getElem?_eq_getElem hx]⟩
theorem own_len (h:w.ownsRow base e size v n xs):xs.length=n*size:=h.1
end
theorem Ext.toFrm {w w':World} {S:Nat→Prop}(h:Ext w w'):Frm S w w':=⟨h.os,h.tape,h.output,h.size,fun k hk _=>h.block k hk id⟩
theorem Frm.of_grown {w w':World} {row:Option Nat}(h:w.grownBy w' row):Frm (fun k=>row=some k) w w':=
 ⟨h.os,h.tape,h.output,h.size,fun k hk hn=>h.block k hk (fun e=>hn e.symm)⟩
theorem Frm.setCell (w:World) (g j:Nat) (u:Value):Frm (fun k=>k=g) w (w.setCell ⟨g,j,none⟩ u):=
 ⟨rfl,rfl,rfl,by simp [World.setCell],fun k _ hn=>Below.heap_setCell _ _ _ _ hn⟩
theorem Frm.trans {S:Nat→Prop} {a b c:World}(h:Frm S a b) (k:Frm S b c):Frm S a c:=
 ⟨k.os.trans h.os,k.tape.trans h.tape,k.output.trans h.output,Nat.le_trans h.size k.size,fun i hi hn=>(k.block i (Nat.lt_of_lt_of_le hi h.size) hn).trans (h.block i hi hn)⟩
theorem Frm.mono {S T:Nat→Prop} {a b:World}(h:Frm S a b)(hS:∀ k,k<a.heap.size→S k→T k):Frm T a b:=
 ⟨h.os,h.tape,h.output,h.size,fun k hk hn=>h.block k hk (fun hs=>hn (hS k hk hs))⟩
theorem Frm.refl (S:Nat→Prop) (w:World):Frm S w w:=⟨rfl,rfl,rfl,Nat.le_refl _,fun _ _ _=>rfl⟩
theorem Frm.cell {S:Nat→Prop} {a w:World}(h:Frm S a w) {p:Addr}(hp:S p.block) (u:Value):Frm S a (w.setCell p u):=
 ⟨h.os,h.tape,h.output,by simpa [World.setCell] using h.size,fun k hk hn=>(Below.heap_setCell _ _ _ _ (by rintro rfl;exact hn hp)).trans (h.block k hk hn)⟩
theorem Frm.ext {S:Nat→Prop} {a w w':World}(h:Frm S a w)(hb:Ext w w'):Frm S a w':=h.trans hb.toFrm
theorem Ext.frm {S:Nat→Prop} {a b c:World}(h:Ext a b) (k:Frm S b c)(hS:∀ k,k<a.heap.size→¬ S k):Ext a c:=
 ⟨k.os.trans h.os,k.tape.trans h.tape,k.output.trans h.output,Nat.le_trans h.size k.size,fun i hi hn=>(k.block i (Nat.lt_of_lt_of_le hi h.size) (hS i hi)).trans (h.block i hi hn)⟩
section
variable {α:Type} {l:List α} {p:α→Bool} {k:Nat} {x:α}
theorem zat (h:l[k]?=some x)(hp:p x=false):l.all p=false:=
 List.all_eq_false.2 ⟨x,List.mem_of_getElem? h,by simp [hp]⟩
theorem zbA (h:l[k]?=some x)(hk:(l.take k).all p=true)(hp:p x=true):(l.take (k+1)).all p=true:=by
 rw [List.take_add_one,h,List.all_append,hk]
 simp [hp]
theorem zdU (hk:l.length≤k)(h:(l.take k).all p=true):l.all p=true:=by
 rwa [List.take_of_length_le hk] at h
end
def Sm (n:Nat):Prop:=n<4294967296
theorem Sm.lt {n:Nat}(h:Sm n):n<4294967296:=h
theorem Sm.of_lt {n:Nat}(h:n<4294967296):Sm n:=h
theorem Sm.or {a b:Nat}(ha:Sm a)(hb:Sm b):Sm (a|||b):=Nat.or_lt_two_pow (n:=32) ha hb
theorem Sm.and_left {a:Nat} (b:Nat)(ha:Sm a):Sm (a&&&b):=Nat.lt_of_le_of_lt Nat.and_le_left ha
theorem Sm.bit {n:Nat}(h:n<32):Sm (2 ^ n):=Nat.pow_lt_pow_right (by omega) h
theorem zaI (a:Nat)(ha:a<9223372036854775808):(BitVec.ofInt 64 (a:Int)).toNat=a:=by
 rw [BitVec.ofInt_natCast,BitVec.toNat_ofNat];exact Nat.mod_eq_of_lt (by omega)
theorem zbj {a b:Nat}(ha:Sm a)(hb:Sm b):bits .and .i64 (a:Int) (b:Int)=((a&&&b:Nat):Int):=by
 have hx:=(Sm.and_left b ha).lt
 have:=ha.lt;have:=hb.lt
 show IntKind.i64.wrap ((BitVec.ofInt 64 (a:Int)&&&BitVec.ofInt 64 (b:Int)).toNat:Int)=_
 rw [BitVec.toNat_and,zaI a (by omega),zaI b (by omega),IntKind.wrap_i64]
 omega
theorem zcw {a b:Nat}(ha:Sm a)(hb:Sm b):bits .or .i64 (a:Int) (b:Int)=((a|||b:Nat):Int):=by
 have hx:=(Sm.or ha hb).lt
 have:=ha.lt;have:=hb.lt
 show IntKind.i64.wrap ((BitVec.ofInt 64 (a:Int)|||BitVec.ofInt 64 (b:Int)).toNat:Int)=_
 rw [BitVec.toNat_or,zaI a (by omega),zaI b (by omega),IntKind.wrap_i64]
 omega
theorem and_one {x:Nat}(hx:Sm x):bits .and .i64 (x:Int) 1=((x % 2:Nat):Int):=by
 have:=zbj hx (b:=1) (by unfold Sm;omega)
 rw [nat_mask1] at this
 exact this
theorem div_pow (x n:Nat):(x:Int) / 2 ^ n=((x / 2 ^ n:Nat):Int):=by simp
theorem zcr {x n:Nat}(hx:Sm x)(hn:32≤n):x.testBit n=false:=
 Nat.testBit_lt_two_pow (Nat.lt_of_lt_of_le hx.lt (by rw [show (4294967296:Nat)=2 ^ 32 from rfl];exact Nat.pow_le_pow_right (by omega) hn))
theorem zdn {x:Nat}(hx:Sm x) (n:Nat):(bits .and .i64 ((x:Int) / 2 ^ min n 64) 1==1)=x.testBit n:=by
 rw [div_pow,and_one (Nat.lt_of_le_of_lt (Nat.div_le_self _ _) hx)]
 by_cases hn:n≤64
 ·rw [Nat.min_eq_left hn,Nat.testBit_eq_decide_div_mod_eq]
  rw [Bool.eq_iff_iff]
  simp only [beq_iff_eq,decide_eq_true_eq]
  omega
 ·rw [Nat.min_eq_right (by omega),zcr hx (by omega)]
  have:x / 2 ^ 64=0:=Nat.div_eq_of_lt (Nat.lt_trans hx.lt (by decide))
  rw [this];decide
def hasB (s:Nat) (n:Int):Bool:=decide (0≤n)&&s.testBit n.toNat
def letters (a k:Nat):List Nat:=(List.range k).filter fun l=>a.testBit l
theorem zaA (a k:Nat):letters a (k+1)=letters a k++if a.testBit k then [k] else []:=by
 unfold letters
 rw [List.range_succ,List.filter_append]
 cases h:a.testBit k<;>simp [h]
theorem zn (a k:Nat):(letters a k).length≤k:=by
 unfold letters
 have:=List.length_filter_le (fun l=>a.testBit l) (List.range k)
 simpa using this
def zF (l:List Nat):List Value:=l.map fun n:Nat=>Value.int .i64 (n:Int)
theorem zad (l:List Nat):(zF l).length=l.length:=by simp [zF]
theorem zdh (l m:List Nat):zF (l++m)=zF l++zF m:=by simp [zF]
theorem zM (a:Int) (w:World) :
  Calls Tryd.prog 80 #[.int .i64 a] w fun e w'=>e=.returned (.bool (decide (0≤a∧a≤63)))∧w=w':=by
 by_cases h0:0≤a
 ·go_enter Tryd.func80,Tryd.ntmps80
  go_wp2
  go_ret
  exact⟨by simp [h0],rfl⟩
 ·go_enter Tryd.func80,Tryd.ntmps80
  go_wp2
  go_ret
  exact⟨by simp;omega,rfl⟩
theorem zam (a:Int) (w:World) :
  Calls Tryd.prog 74 #[.int .i64 a] w fun e w'=>e=.returned (.bool (decide (0≤a∧a≤63)))∧w=w':=by
 by_cases h0:0≤a
 ·go_enter Tryd.func74,Tryd.ntmps74
  go_wp2
  go_ret
  exact⟨by simp [h0],rfl⟩
 ·go_enter Tryd.func74,Tryd.ntmps74
  go_wp2
  go_ret
  exact⟨by simp;omega,rfl⟩
theorem zcx (s:ByteArray) (i:Nat)(h:i<s.size):(s[i].toNat:Int)<256:=by
 have:=s[i].toNat_lt
 omega
theorem zf {a b:Bool}(h:a=b):Ending.returned (.bool a)=.returned (.bool b):=by rw [h]
theorem zaO {k:IntKind} {a b:Int}(h:a=b):Ending.returned (.int k a)=.returned (.int k b):=by rw [h]
theorem spec_l1At (s:ByteArray) (i:Nat)(hi:i<s.size) (w:World) :
  Calls Tryd.prog 77 #[.string s,.int .i64 i] w fun e w'=>e=.returned (.int .i64 (s[i].toNat - 97))∧w=w':=by
 have hb:=zcx s i hi
 go_enter Tryd.func77,Tryd.ntmps77
 go_wp2
 go_ret
 exact⟨rfl,rfl⟩
theorem zA (s n:Nat)(hs:Sm s) (w:World)(hn:n<9223372036854775808) :
  Calls Tryd.prog 33 #[.int .i64 s,.int .i64 n] w fun e w'=>e=.returned (.bool (s.testBit n))∧w=w':=by
 have hu:IntKind.u64.wrap (n:Int)=n:=by rw [IntKind.wrap_u64];omega
 have hb:=zdn hs n
 have Hb:=za hb
 clear hb
 go_enter Tryd.func33,Tryd.ntmps33
 go_wp2
 go_ret
 exact⟨by simp [Hb.out],rfl⟩
theorem zbl (s:Nat) (n:Int)(hs:Sm s) (w:World) :
  Calls Tryd.prog 30 #[.int .i64 s,.int .i64 n] w fun e w'=>e=.returned (.bool (hasB s n))∧w=w':=by
 have hb:=zdn hs n.toNat
 have Hb:=za hb
 clear hb
 by_cases h0:0≤n
 ·go_enter Tryd.func30,Tryd.ntmps30
  go_wp2
  go_ret
  exact⟨by simp [Hb.out,hasB,h0],rfl⟩
 ·go_enter Tryd.func30,Tryd.ntmps30
  go_wp2
  go_ret
  exact⟨by simp [hasB];omega,rfl⟩
theorem zS:(Tryd.prog.info? 3).map (fun i=>(i.zero,i.size,i.bytes))=some (some (.int .i64 0),1,8):=by kernel_rfl
def zdR (w:World) (xs:List Nat) (e:Ending) (w':World):Prop:=
 ∃ A c,e=.returned (.slice A xs.length c)∧w'.ownsRow w.heap.size 3 1 (.slice A xs.length c) xs.length (zF xs)∧Ext w w'
theorem yV01a3 {P:Prop}(h:P:=by
 go_roundw
 case rel=>exact⟨k+1,by omega,by go_num,by rw [Hls.out];first|simpa [zF] using zet|simpa using zep,by assumption⟩
 case measure=>simp [intOf];omega
 ):P:=h
theorem zaY (a:Nat)(hs:Sm a) (w:World) :
  Calls Tryd.prog 81 #[.int .i64 a] w (zdR w (letters a 6)):=by
 go_enter Tryd.func81,Tryd.ntmps81
 go_wp2
 go_loopw [3,5] (fun v i wr=>∃ k:Nat,k≤6∧i=.int .i64 k∧wr.ownsRow w.heap.size 3 1 v (letters a k).length (zF (letters a k))∧Ext w wr)
  (fun _ i _=>6 - (intOf i).toNat)
 case atStart=>exact⟨0,Nat.zero_le _,rfl,World.ownsRow_nil _ _ _ _,Ext.refl _⟩
 case round =>
  obtain⟨k,hk,rfl,zep,zer⟩:=hrel
  have hl:=zn a k
  by_cases hlt:k<6
  ·cases hb:a.testBit k
   all_goals
    have Hb:hasB a k=a.testBit k:=by simp [hasB]
    rw [hb] at Hb
    have hls:=zaA a k
    rw [hb] at hls
    have Hls:=za hls
    clear hls hb
    go_wp2_with (first
     |(go_at_call 30;refine (zbl a k hs _).mono ?_;rintro e w' ⟨rfl,rfl⟩)
     |(at_builtin;refine zI w wr rfl (.tmp 11) (.tmp 13) _ rfl 3 _ 1 8 Tryd.underlying62 zS rfl (by decide) u3 _ _ _ _ rfl rfl zer zep rfl (zaC _) (by unfold maxLen;omega) (by omega) ?_;intro v' w1 hext1 zet hg1 hat1))
    exact yV01a3
  ·obtain rfl:k=6:=by omega
   obtain⟨A,c,rfl⟩:=zl zep
   go_wp2
   go_ret
   exact⟨_,_,rfl,zep,zer⟩
def tot (ls:List (List Int)):Nat:=(ls.map List.length).sum
theorem zem {ls:List (List Int)} {k:Nat} {l:List Int}(h:ls[k]?=some l):tot (ls.take (k+1))=tot (ls.take k)+l.length:=by
 rw [List.take_add_one,h]
 simp [tot]
theorem tot_append (a b:List (List Int)):tot (a++b)=tot a+tot b:=by simp [tot]
theorem tot_take_le (ls:List (List Int)) (k:Nat):tot (ls.take k)≤tot ls:=by
 have h:=tot_append (ls.take k) (ls.drop k)
 rw [List.take_append_drop] at h
 omega
structure Aut where
 al:Int
 next:List (List Int)
 acc:List Bool
def zaS (w:World) (lo hi:Nat) (A:Option Addr) (n:Nat) (A':Option Addr) (n':Nat) (a:Aut):Prop:=
 zbh w lo hi A n a.next∧n'=a.acc.length∧Reads w lo hi 1 A' n' (zL a.acc)
section
variable {w w':World} {lo hi n n':Nat} {A A':Option Addr} {a:Aut}
theorem zaS.ext (h:zaS w lo hi A n A' n' a)(hb:Ext w w'):zaS w' lo hi A n A' n' a:=⟨h.1.ext hb,h.2.1,h.2.2.ext hb⟩
theorem zaS.n1 (h:zaS w lo hi A n A' n' a):n=a.next.length:=h.1.1
theorem zaS.n2 (h:zaS w lo hi A n A' n' a):n'=a.acc.length:=h.2.1
end
def Aut.size (a:Aut):Nat:=a.next.length+tot a.next+a.acc.length
theorem zal:(Tryd.prog.info? 4).map (fun i=>(i.zero,i.size,i.bytes))=some (some (.bool false),1,1):=by kernel_rfl
theorem zbb:(Tryd.prog.info? 62).map (fun i=>(i.zero,i.size,i.bytes))=some (some (.slice none 0 0),1,24):=by kernel_rfl
def zq (w:World) (base:Nat) (rows:List Value) (ls:List (List Int)):Prop:=
 rows.length=ls.length∧(∀ (i:Nat) (row:Value) (l:List Int),rows[i]?=some row→ls[i]?=some l→w.ownsRow base 3 1 row l.length (ints l)) ∧
  ∀ (i j:Nat) (ri rj:Value) (b:Nat),rows[i]?=some ri→rows[j]?=some rj→i≠j→ri.ownBlock=some b→rj.ownBlock≠some b
theorem zq.nil (w:World) (base:Nat):zq w base [] []:=⟨rfl,fun i row l h=>by simp at h,fun i j ri rj b h=>by simp at h⟩
theorem zq.ext {w w':World} {base:Nat} {rows:List Value} {ls:List (List Int)}(h:zq w base rows ls)(hb:Ext w w'):zq w' base rows ls:=
 ⟨h.1,fun i row l hr hl=>zm (h.2.1 i row l hr hl) hb,h.2.2⟩
theorem zq.row {w:World} {base:Nat} {rows:List Value} {ls:List (List Int)}(h:zq w base rows ls) {i:Nat} {row:Value}(hr:rows[i]?=some row):∃ l,ls[i]?=some l∧w.ownsRow base 3 1 row l.length (ints l):=by
 have hi:i<rows.length:=(List.getElem?_eq_some_iff.1 hr).1
 have hl:ls[i]?=some (ls[i]'(by rw [← h.1];exact hi)):=List.getElem?_eq_getElem _
 exact⟨_,hl,h.2.1 i row _ hr hl⟩
theorem zq.frm {S:Nat→Prop} {w w':World} {base:Nat} {rows:List Value} {ls:List (List Int)}(h:zq w base rows ls)(hb:Frm S w w')(hS:∀ (i:Nat) (row:Value) (b:Nat),rows[i]?=some row→row.ownBlock=some b→¬ S b):zq w' base rows ls:=
 ⟨h.1,fun i row l hr hl=>zj (h.2.1 i row l hr hl) hb (fun b hb=>hS i row b hr hb),h.2.2⟩
theorem zq.snoc {w w':World} {base:Nat} {rows:List Value} {ls:List (List Int)}(h:zq w base rows ls)(hb:Ext w w') {row:Value} {l:List Int}(hbase:base≤w.heap.size)(hrow:w'.ownsRow w.heap.size 3 1 row l.length (ints l)) :
  zq w' base (rows++[row]) (ls++[l]):=by
 have hlen:=h.1
 refine⟨by simp [hlen],fun i r m hr hm=>?_,fun i j ri rj b hri hrj hij hbi=>?_⟩
 ·rcases Nat.lt_trichotomy i rows.length with hi|hi|hi
  ·rw [List.getElem?_append_left hi] at hr
   rw [List.getElem?_append_left (by omega)] at hm
   exact zm (h.2.1 i r m hr hm) hb
  ·rw [List.getElem?_append_right (by omega),hi,Nat.sub_self] at hr
   rw [List.getElem?_append_right (by omega),hi,hlen,Nat.sub_self] at hm
   simp at hr hm
   subst hr;subst hm
   exact zT hrow hbase
  ·rw [List.getElem?_eq_none (by simp;omega)] at hr;cases hr
 ·have old:∀ (i:Nat) (r:Value) (b:Nat),i<rows.length→rows[i]?=some r→r.ownBlock=some b→b<w.heap.size:=fun i r b hi hr hb=>by
   obtain⟨m,_,ho⟩:=h.row hr
   exact (ho.lt b hb).2
  have new:∀ b,row.ownBlock=some b→w.heap.size≤b:=fun b hb=>(hrow.lt b hb).1
  have hi:i≤rows.length:=by have:=(List.getElem?_eq_some_iff.1 hri).1;simp at this;omega
  have hj:j≤rows.length:=by have:=(List.getElem?_eq_some_iff.1 hrj).1;simp at this;omega
  rcases Nat.lt_or_eq_of_le hi with hi|hi<;>rcases Nat.lt_or_eq_of_le hj with hj|hj
  ·rw [List.getElem?_append_left hi] at hri
   rw [List.getElem?_append_left hj] at hrj
   exact h.2.2 i j ri rj b hri hrj hij hbi
  ·rw [List.getElem?_append_left hi] at hri
   subst hj
   simp at hrj
   subst hrj
   intro hc
   have h1:=old i ri b hi hri hbi
   have h2:=new b hc
   omega
  ·rw [List.getElem?_append_left hj] at hrj
   subst hi
   simp at hri
   subst hri
   intro hc
   have h1:=old j rj b hj hrj hc
   have h2:=new b hbi
   omega
  ·omega
def zcu (w:World) (base:Nat) (v:Value) (ls:List (List Int)):Prop:=∃ rows,w.ownsRow base 62 1 v ls.length rows∧zq w base rows ls
theorem zcu.ext {w w':World} {base:Nat} {v:Value} {ls:List (List Int)}(h:zcu w base v ls)(hb:Ext w w'):zcu w' base v ls:=by
 obtain⟨rows,h1,h2⟩:=h
 exact⟨rows,zm h1 hb,h2.ext hb⟩
theorem zq.keep {S:Nat→Prop} {w w':World} {base:Nat} {rows:List Value} {ls:List (List Int)}(h:zq w base rows ls)(hb:Frm S w w')(hS:∀ b,base≤b→¬ S b):zq w' base rows ls:=
 ⟨h.1,fun i row l hr hl=>zaw (h.2.1 i row l hr hl) hb hS,h.2.2⟩
theorem zq.less {w:World} {base base':Nat} {rows:List Value} {ls:List (List Int)}(h:zq w base rows ls)(hb:base'≤base):zq w base' rows ls:=
 ⟨h.1,fun i row l hr hl=>zT (h.2.1 i row l hr hl) hb,h.2.2⟩
theorem zcu.keep {S:Nat→Prop} {w w':World} {base:Nat} {v:Value} {ls:List (List Int)}(h:zcu w base v ls)(hb:Frm S w w')(hS:∀ b,base≤b→¬ S b):zcu w' base v ls:=by
 obtain⟨rows,h1,h2⟩:=h
 exact⟨rows,zaw h1 hb hS,h2.keep hb hS⟩
theorem zcu.less {w:World} {base base':Nat} {v:Value} {ls:List (List Int)}(h:zcu w base v ls)(hb:base'≤base):zcu w base' v ls:=by
 obtain⟨rows,h1,h2⟩:=h
 exact⟨rows,zT h1 hb,h2.less hb⟩
theorem zcu.reads {w:World} {base:Nat} {A:Option Addr} {n c:Nat} {ls:List (List Int)}(h:zcu w base (.slice A n c) ls)(hn:n=ls.length):zbh w base w.heap.size A n ls:=by
 obtain⟨rows,h1,h2⟩:=h
 subst hn
 refine⟨rfl,rows,Reads.of_own h1,h2.1,fun i row l hr hl=>?_⟩
 have ho:=h2.2.1 i row l hr hl
 obtain⟨A',c',rfl⟩:=zl ho
 exact⟨A',c',rfl,Reads.of_own ho⟩
def zX (w:World) (base:Nat) (A:Option Addr) (n c:Nat) (A':Option Addr) (n' c':Nat) (a:Aut):Prop:=
 zcu w base (.slice A n c) a.next∧n=a.next.length∧w.ownsRow base 4 1 (.slice A' n' c') n' (zL a.acc)∧n'=a.acc.length
theorem zX.ext {w w':World} {base:Nat} {A:Option Addr} {n c:Nat} {A':Option Addr} {n' c':Nat} {a:Aut}(h:zX w base A n c A' n' c' a)(hb:Ext w w'):zX w' base A n c A' n' c' a:=
 ⟨h.1.ext hb,h.2.1,zm h.2.2.1 hb,h.2.2.2⟩
theorem zX.keep {S:Nat→Prop} {w w':World} {base:Nat} {A:Option Addr} {n c:Nat} {A':Option Addr} {n' c':Nat} {a:Aut}(h:zX w base A n c A' n' c' a)(hb:Frm S w w')(hS:∀ b,base≤b→¬ S b):zX w' base A n c A' n' c' a:=
 ⟨h.1.keep hb hS,h.2.1,zaw h.2.2.1 hb hS,h.2.2.2⟩
theorem zX.less {w:World} {base base':Nat} {A:Option Addr} {n c:Nat} {A':Option Addr} {n' c':Nat} {a:Aut}(h:zX w base A n c A' n' c' a)(hb:base'≤base):zX w base' A n c A' n' c' a:=
 ⟨h.1.less hb,h.2.1,zT h.2.2.1 hb,h.2.2.2⟩
theorem zX.reads {w:World} {base:Nat} {A:Option Addr} {n c:Nat} {A':Option Addr} {n' c':Nat} {a:Aut}(h:zX w base A n c A' n' c' a):zaS w base w.heap.size A n A' n' a:=
 ⟨h.1.reads h.2.1,h.2.2.2,Reads.of_own h.2.2.1⟩
def RetAut (w:World) (a:Aut) (e:Ending) (w':World):Prop:=
 ∃ A n c A' n' c',e=.returned (.agg #[.int .i64 a.al,.slice A n c,.slice A' n' c'])∧zX w' w.heap.size A n c A' n' c' a∧Ext w w'
def zaG:Op→Bool
 |.move _ | .assign _ | .pick _ _ _ | .binOp _ _ _ _ _ | .unOp _ _ _ | .load _ _ | .fieldAddr _ _ _ | .field _ _ _ | .indexAddr _ _ _ | .index _ _ _ | .extract _ _ | .build _ _ | .slice _ _ _ _ _ | .convert _ _ _=>true
 |.call { callee:=.builtin .len,.. }=>true
 |.call { callee:=.builtin .cap,.. }=>true
 |_=>false
def okOrd (l:List Oper):List Nat→Array Bool→Bool
 |[],listed=>(Region.ready .any l.toArray listed).isEmpty
 |i :: rest,listed =>
  (match l[i]? with
   |some o=>if zaG o.op then Region.free .any l.toArray listed i&&(Region.ready .any l.toArray listed).contains i else Region.ready .any l.toArray listed==[i]
   |none=>false)&&okOrd l rest (listed.setIfInBounds i true)
def zbJ (P:Program) (l:List Oper) (Q:Exit→Act→World→Prop) (S:World→Prop):List Nat→Act→World→Prop
 |[],a,w=>Q .normal a w
 |i :: rest,a,w=>match l[i]? with
  |some o=>if zaG o.op then ∃ v,YieldsIf P l.toArray S o v a∧S w∧zbJ P l Q S rest (a.put o.dst v) w
   else wpOp P l.toArray Q i (fun a' w'=>S w'∧zbJ P l Q S rest a' w') a w
  |none=>False
section
variable {P:Program} {l:List Oper} {Q:Exit→Act→World→Prop} {S:World→Prop}
theorem zdm (hs:Region.noSelect l.toArray=true)(hQ:∀ (c:List PanicEntry) (a:Act) (d:Tmp) (v:Value) (w:World),Q (.panic c) (a.put (some d) v) w→Q (.panic c) a w) :
  ∀ (ord:List Nat) (listed:Array Bool) (a:Act) (w:World),okOrd l ord listed=true→zbJ P l Q S ord a w→wpAnyH P .any l.toArray Q S ord.length listed a w
 |[],listed,a,w,hok,h=>by
  simp only [okOrd,List.isEmpty_iff] at hok
  exact wpAnyH_done hok h 0
 |i :: rest,listed,a,w,hok,h=>by
  cases ho:l[i]? with
  |none=>simp [okOrd,ho] at hok
  |some o =>
   simp only [okOrd,ho,Bool.and_eq_true] at hok
   simp only [zbJ,ho] at h
   by_cases hq:zaG o.op=true
   ·rw [if_pos hq] at hok h
    simp only [Bool.and_eq_true] at hok
    obtain⟨v,hy,hS,hr⟩:=h
    exact wpAnyH_take (by simpa using ho) hs hok.1.1 hok.1.2 (fun c a w h=>by cases hd:o.dst with|none=>rw [hd] at h;exact h|some d=>rw [hd] at h;exact hQ c a d v w h) hy hS (zdm hs hQ rest _ _ _ hok.2 hr)
   ·rw [if_neg hq] at hok h
    refine wpAnyH_all (rs:=[i]) (by simpa using hok.1) (by simp) fun j hj=>?_
    rw [List.mem_singleton.1 hj]
    exact wpOp_mono (fun a' w' h=>⟨h.1,zdm hs hQ rest _ _ _ hok.2 h.2⟩) h
theorem zC {id:Nat} {a:Act} {w:World} (S:World→Prop) (ord:List Nat)(hm:P.follows .mixedOrders=true)(hlen:ord.length=l.length)(hs:Region.noSelect l.toArray=true)(hok:okOrd l ord (Array.replicate l.length false)=true)
  (hQ:∀ (c:List PanicEntry) (a:Act) (d:Tmp) (v:Value) (w:World),Q (.panic c) (a.put (some d) v) w→Q (.panic c) a w) (hS:S w.drew) (h:S w.drew→zbJ P l Q S ord a w.drew):(Code.region id l.toArray true).wp P Q a w:=by
 refine wp_region_held (S:=S) hm ?_
 have:=zdm hs hQ ord _ a w.drew hok (h hS)
 rw [hlen] at this
 simpa using this
theorem zar {a:Act} {w:World}(h:Q .normal a w):zbJ P l Q S [] a w:=h
theorem seq_read {i:Nat} {rest:List Nat} {o:Oper} {v:Value} {a:Act} {w:World}(ho:l[i]?=some o)(hq:zaG o.op=true)(hw:Region.wanted o (yielded l.toArray a.tmps)=true)
  (hy:∀ W,S W→(execOp a.eval o).run P W=.ok (.value v) W) (hS:S w) (h:zbJ P l Q S rest (a.put o.dst v) w):zbJ P l Q S (i :: rest) a w:=by
 simp only [zbJ,ho,hq,if_true]
 exact⟨v,.inl ⟨hw,hy⟩,hS,h⟩
theorem seq_skip {i:Nat} {rest:List Nat} {o:Oper} {a:Act} {w:World}(ho:l[i]?=some o)(hw:Region.wanted o (yielded l.toArray a.tmps)=false)
  (hS:S w) (h:zbJ P l Q S rest (a.put o.dst undef) w):zbJ P l Q S (i :: rest) a w:=by
 simp only [zbJ,ho]
 split
 ·exact⟨undef,.inr ⟨hw,rfl⟩,hS,h⟩
 ·unfold wpOp
  simp only [List.getElem?_toArray,ho,hw,Bool.false_eq_true,if_false]
  exact⟨hS,h⟩
theorem zt {i:Nat} {rest:List Nat} {o:Oper} {a:Act} {w:World}
  (h:∀ K:Act→World→Prop,Shut (∀ a w,S w→(S w→zbJ P l Q S rest a w)→K a w)→o.wp P a w K Q) (ho:l[i]?=some o:=by rfl) (hq:zaG o.op=false:=by rfl) (hw:Region.wanted o (yielded l.toArray a.tmps)=true:=by rfl):zbJ P l Q S (i :: rest) a w:=by
 simp only [zbJ,ho,hq]
 unfold wpOp
 simp only [List.getElem?_toArray,ho,hw,if_true]
 exact .inl (h _ fun a w hS hW=>⟨hS,hW hS⟩)
end
theorem sQ {A B:Prop}(h:B) (k:Bx B→A:=by
 intro h0
 repeat (first|(refine seq_skip rfl rfl (by assumption) ?_;simp only [Act.put,List.setIfInBounds_toArray,List.set_cons_zero,List.set_cons_succ])|(refine seq_read (v:=?_) rfl rfl rfl (fun X hX=>?_) (by assumption) ?_;rotate_left;(focus (go_simp<;>with_reducible rfl));simp only [Act.put,List.setIfInBounds_toArray,List.set_cons_zero,List.set_cons_succ]))
 exact h0.out):A:=k ⟨h⟩
theorem sR {P:Program} {l:List Oper} {Q:Exit→Act→World→Prop} {id:Nat} {a:Act} {w:World} (S:World→Prop) (ord:List Nat)(h:S w.drew→zbJ P l Q S ord a w.drew)(hm:P.follows .mixedOrders=true:=by kernel_rfl)(hlen:ord.length=l.length:=by rfl)(hs:Region.noSelect l.toArray=true:=by kernel_rfl)(hok:okOrd l ord (Array.replicate l.length false)=true:=by kernel_rfl)
  (hQ:∀ (c:List PanicEntry) (a:Act) (d:Tmp) (v:Value) (w:World),Q (.panic c) (a.put (some d) v) w→Q (.panic c) a w:=by exact fun _ _ _ _ _ h=>h) (hS:S w.drew:=by first|assumption|exact (Ext.refl _).drew|(refine Ext.drew ?_;assumption)):(Code.region id l.toArray true).wp P Q a w:=
 zC S ord hm hlen hs hok hQ hS h
structure Edg where
 fr:Int
 le:Int
 ta:Int
deriving DecidableEq
structure Sys where
 al:Int
 st:Int
 edges:List Edg
def zd:List Edg→List Value
 |[]=>[]
 |e :: r=>.int .i64 e.fr :: .int .i64 e.le :: .int .i64 e.ta :: zd r
theorem zau (l:List Edg):(zd l).length=l.length*3:=by
 induction l with
 |nil=>rfl
 |cons e r ih=>simp only [zd,List.length_cons,ih];omega
theorem zcM (l m:List Edg):zd (l++m)=zd l++zd m:=by
 induction l with
 |nil=>rfl
 |cons e r ih=>simp [zd,ih]
theorem zaK {l:List Edg} {k:Nat} {e:Edg}(h:l[k]?=some e):(zd l)[k*3]?=some (.int .i64 e.fr)∧(zd l)[k*3+1]?=some (.int .i64 e.le)∧(zd l)[k*3+2]?=some (.int .i64 e.ta):=by
 induction l generalizing k with
 |nil=>simp at h
 |cons a r ih =>
  cases k with
  |zero=>simp at h;subst h;exact⟨rfl,rfl,rfl⟩
  |succ k =>
   have:=ih (k:=k) (by simpa using h)
   have e1:(k+1)*3=k*3+1+1+1:=by omega
   refine⟨?_,?_,?_⟩<;>rw [e1]<;>simp only [zd,List.getElem?_cons_succ]
   ·exact this.1
   ·exact this.2.1
   ·exact this.2.2
theorem zaZ {w:World} {ad:Addr} {v:Value}(h:w.cell? (ad.add 0)=some v):ad=⟨ad.block,ad.off,none⟩:=by
 rw [addr_zero] at h
 obtain⟨b,o,s⟩:=ad
 have hs:s=none:=World.cell?_spot h
 subst hs
 rfl
theorem Reads.edge {w:World} {lo hi n k:Nat} {A:Option Addr} {l:List Edg}(h:Reads w lo hi 3 A n (zd l))(hk:k<n) :
  ∃ b o e,A=some ⟨b,o,none⟩∧lo≤b∧b<hi∧Hid (l[k]?=some e)∧w.cell? ⟨b,o+k*3,none⟩=some (.int .i64 e.fr)∧w.cell? ⟨b,o+k*3+1,none⟩=some (.int .i64 e.le)∧w.cell? ⟨b,o+k*3+2,none⟩=some (.int .i64 e.ta):=by
 obtain⟨ad,eA,hl,hb,hc⟩:=h.at_ hk
 have hn:l.length=n:=by have:=h.length;rw [zau] at this;omega
 have hx:l[k]?=some l[k]:=List.getElem?_eq_getElem (by omega)
 have hg:=zaK hx
 have h0:=hc _ _ hg.1
 have h1:=hc _ _ hg.2.1
 have h2:=hc _ _ hg.2.2
 have hz:=zaK (k:=0) (List.getElem?_eq_getElem (l:=l) (by omega))
 rw [Nat.zero_mul] at hz
 have hs:=zaZ (hc _ _ hz.1)
 rw [hs] at h0 h1 h2
 rw [zP] at h0 h1 h2
 exact⟨ad.block,ad.off,l[k],by rw [eA,hs],hl,hb,hx,h0,by rw [Nat.add_assoc];exact h1,by rw [Nat.add_assoc];exact h2⟩
theorem Reads.edge2 {w:World} {lo hi n j b o:Nat} {l:List Edg} {e:Edg}(h:Reads w lo hi 3 (some ⟨b,o,none⟩) n (zd l))(he:l[j]?=some e) :
  w.cell? ⟨b,o+j*3,none⟩=some (.int .i64 e.fr)∧w.cell? ⟨b,o+j*3+1,none⟩=some (.int .i64 e.le)∧w.cell? ⟨b,o+j*3+2,none⟩=some (.int .i64 e.ta):=by
 have hj:j<l.length:=(List.getElem?_eq_some_iff.1 he).1
 have hn:l.length=n:=by have:=h.length;rw [zau] at this;omega
 obtain⟨ad,eA,_,_,hc⟩:=h.at_ (k:=j) (by omega)
 injection eA with eA
 subst eA
 have hg:=zaK he
 have h0:=hc _ _ hg.1
 have h1:=hc _ _ hg.2.1
 have h2:=hc _ _ hg.2.2
 rw [zP] at h0 h1 h2
 exact⟨h0,by rw [Nat.add_assoc];exact h1,by rw [Nat.add_assoc];exact h2⟩
def zQ (w:World) (lo hi:Nat) (A:Option Addr) (n:Nat) (s:Sys):Prop:=n=s.edges.length∧Reads w lo hi 3 A n (zd s.edges)
section
variable {w w':World} {lo hi n:Nat} {A:Option Addr} {s:Sys}
theorem zQ.ext (h:zQ w lo hi A n s)(hb:Ext w w'):zQ w' lo hi A n s:=⟨h.1,h.2.ext hb⟩
theorem zQ.more {lo' hi':Nat}(h:zQ w lo hi A n s)(hL:lo'≤lo)(hH:hi≤hi'):zQ w lo' hi' A n s:=⟨h.1,h.2.more hL hH⟩
end
theorem zN:(Tryd.prog.info? 116).map (fun i=>(i.zero,i.size,i.bytes))=some (some (.agg #[.int .i64 0,.int .i64 0,.int .i64 0]),3,24):=by kernel_rfl
instance:BEq Edg:=⟨fun a b=>decide (a.fr=b.fr)&&(decide (a.le=b.le)&&decide (a.ta=b.ta))⟩
theorem edg_beq (a b:Edg):(a==b)=(decide (a.fr=b.fr)&&(decide (a.le=b.le)&&decide (a.ta=b.ta))):=rfl
instance:LawfulBEq Edg where
 eq_of_beq {a b} h:=by
  rw [edg_beq] at h
  simp only [Bool.and_eq_true,decide_eq_true_eq] at h
  cases a;cases b;simp_all
 rfl {a}:=by rw [edg_beq];simp
def SLAt (w:World) (lo hi:Nat) (A:Option Addr) (n:Nat) (ss:List Sys):Prop:=
 n=ss.length∧∃ cells,Reads w lo hi 3 A n cells∧∀ (k:Nat) (s:Sys),ss[k]?=some s→∃ (B:Option Addr) (m c:Nat),cells[k*3]?=some (.int .i64 s.al)∧cells[k*3+1]?=some (.int .i64 s.st)∧cells[k*3+2]?=some (.slice B m c)∧zQ w lo hi B m s
section
variable {w w':World} {lo hi n k:Nat} {A:Option Addr} {ss:List Sys}
theorem SLAt.ext (h:SLAt w lo hi A n ss)(hb:Ext w w'):SLAt w' lo hi A n ss:=by
 obtain⟨e,cells,hr,hx⟩:=h
 refine⟨e,cells,hr.ext hb,fun k s hs=>?_⟩
 obtain⟨B,m,c,h0,h1,h2,h3⟩:=hx k s hs
 exact⟨B,m,c,h0,h1,h2,h3.ext hb⟩
theorem SLAt.len (h:SLAt w lo hi A n ss):n≤9223372036854775807:=by
 obtain⟨_,cells,hr,_⟩:=h
 exact hr.len
theorem reads_zero {xs:List Value} {u:Value}(h:Reads w lo hi 3 A n xs)(hn:0<n)(hu:xs[0]?=some u):∃ b o,A=some ⟨b,o,none⟩∧lo≤b∧b<hi∧∀ j v,xs[j]?=some v→w.cell? ⟨b,o+j,none⟩=some v:=by
 obtain⟨ad,e,hl,hb,hc⟩:=h.at_ hn
 have hs:=zaZ (hc 0 u hu)
 refine⟨ad.block,ad.off,by rw [e,hs],hl,hb,fun j v hv=>?_⟩
 have:=hc j v hv
 rw [hs,zP] at this
 exact this
theorem SLAt.sys (h:SLAt w lo hi A n ss)(hk:k<n):∃ b o s B m c,A=some ⟨b,o,none⟩∧lo≤b∧b<hi∧Hid (ss[k]?=some s)∧w.cell? ⟨b,o+k*3,none⟩=some (.int .i64 s.al)∧w.cell? ⟨b,o+k*3+1,none⟩=some (.int .i64 s.st)∧w.cell? ⟨b,o+k*3+2,none⟩=some (.slice B m c)∧zQ w lo hi B m s:=by
 obtain⟨e,cells,hr,hx⟩:=h
 have h0:ss[0]?=some (ss[0]'(by omega)):=List.getElem?_eq_getElem _
 obtain⟨_,_,_,z0,_⟩:=hx 0 _ h0
 rw [Nat.zero_mul] at z0
 obtain⟨b,o,rfl,hl,hb,hc⟩:=reads_zero hr (by omega) z0
 have hs:ss[k]?=some (ss[k]'(by omega)):=List.getElem?_eq_getElem _
 obtain⟨B,m,c,h0,h1,h2,h3⟩:=hx k _ hs
 exact⟨b,o,_,B,m,c,rfl,hl,hb,hs,hc _ _ h0,by rw [Nat.add_assoc];exact hc _ _ h1,by rw [Nat.add_assoc];exact hc _ _ h2,h3⟩
end
end Go.Proofs.YtfcjhpodichpjaaDoor
namespace Go.Proofs.YtfcjhpodichpjaaDoor
open Go Go.ChangeShapes Go.WideShapes Go.ChangeAt Go.RowKit Go.Deep
theorem own_:ownKnob Tryd.prog.godebug=none:=by kernel_rfl
theorem laidOut_:laidOutB Tryd.prog=true:=by kernel_rfl
theorem and_t {a b:Bool}(h:a=true) (k:b=true):(a&&b)=true:=by rw [h,k];rfl
end Go.Proofs.YtfcjhpodichpjaaDoor
namespace Go.Proofs.YtfcjhpodichpjaaDoor
open Go Go.RowKit
def Tab (w:World):Prop:=∀ j,j<64→w.cell? ⟨1,j,none⟩=some (.int .u8 (Lib.deBruijn64tab.getD j 0))
theorem Tab.ext {w w':World}(h:Tab w)(hb:Ext w w'):Tab w':=fun j hj=>hb.cell_some (h j hj)
theorem tz64_core (x k idx:Nat) (w:World)(hx0:((x:Int)==0)=false)
  (key:IntKind.u64.wrap (bits BinOp.and IntKind.u64 (x:Int) (IntKind.u64.wrap (-(x:Int)))*285870213051353865) / 288230376151711744=(idx:Int))
  (hi:idx<64) (hk:k<64) (hcell:w.cell? ⟨1,idx,none⟩=some (.int .u8 k)) :
  Calls Tryd.prog 122 #[.int .u64 x] w fun e w'=>e=.returned (.int .i64 k)∧w=w':=by
 go_enter Tryd.func122,Tryd.ntmps122
 go_wp2_with (simp only [key])
 go_ret
 exact⟨rfl,rfl⟩
theorem tz64 (x:Nat)(hx:x<18446744073709551616)(hx0:x≠0) (w:World)(hT:Tab w) :
  Calls Tryd.prog 122 #[.int .u64 x] w fun e w'=>e=.returned (.int .i64 (Lib.ctz 64 x))∧w=w':=by
 obtain⟨hlow,hk⟩:=Lib.lowest_bit 64 x hx0 hx
 obtain⟨hi,htab⟩:=Lib.deBruijn64_at _ hk
 have hcell:=hT _ hi
 rw [htab] at hcell
 exact tz64_core x _ _ w (by simp;omega) (tz64_key x _ hx hx0 hlow) hi hk hcell
theorem tz (x:Nat)(hx:x<18446744073709551616)(hx0:x≠0) (w:World)(hT:Tab w) :
  Calls Tryd.prog 105 #[.int .u64 x] w fun e w'=>e=.returned (.int .i64 (Lib.ctz 64 x))∧w=w':=by
 go_enter Tryd.func105,Tryd.ntmps105
 go_wp2_with (go_at_call 122;refine (tz64 x hx hx0 w hT).mono ?_;rintro e w' ⟨rfl,rfl⟩)
 go_ret
 exact⟨rfl,rfl⟩
theorem tab_head {W : World} {rest : List (String × DataW Unit)} (h : laidMet Tryd.prog (("math/bits.deBruijn64tab", Rows.laid_math_bits_deBruijn64tab) :: rest) W) : Tab W := by
 have h1 : Lib.TabIs Tryd.prog W "math/bits.deBruijn64tab" .u8 (Lib.deBruijn64tab.map fun n : Nat => (n : Int)) :=
  Lib.tabIs_of_head (g:=1) (t:=168) (e:=5) (by kernel_rfl) (by kernel_rfl) Tryd.underlying168 Tryd.underlying5 (by kernel_rfl) (by kernel_rfl) h
 intro j hj
 have:=h1.cell (g:=1) (by kernel_rfl) j (by rw [List.length_map];exact hj)
 rw [this,List.getD_eq_getElem?_getD,List.getElem?_map,List.getD_eq_getElem?_getD]
 have hl:Lib.deBruijn64tab.length=64:=rfl
 rw [List.getElem?_eq_getElem (by omega)]
 rfl
theorem tab_two {W : World} {rest : List (String × DataW Unit)} (h : laidMet Tryd.prog (("math/bits.deBruijn32tab", Rows.laid_math_bits_deBruijn32tab) :: ("math/bits.deBruijn64tab", Rows.laid_math_bits_deBruijn64tab) :: rest) W) : Tab W := tab_head (laidMet.tail h)
def E (es:List Edg) (i l k:Nat):Prop:=∃ e∈es,e.fr=i∧e.le=l∧e.ta=k
def Ok (both:Bool) (es es':List Edg) (X:Nat→Nat→Prop) (i j:Nat):Prop:=
 (∀ l k,E es i l k→∃ k',E es' j l k'∧X k k')∧(both=true→∀ l k',E es' j l k'→∃ k,E es i l k∧X k k')
theorem Ok.mono {both:Bool} {es es':List Edg} {X Y:Nat→Nat→Prop} {i j:Nat}(h:Ok both es es' X i j)(hXY:∀ i j,X i j→Y i j):Ok both es es' Y i j:=by
 refine⟨fun l k hk=>?_,fun hb l k hk=>?_⟩
 ·obtain⟨k',h1,h2⟩:=h.1 l k hk
  exact⟨k',h1,hXY _ _ h2⟩
 ·obtain⟨k',h1,h2⟩:=h.2 hb l k hk
  exact⟨k',h1,hXY _ _ h2⟩
def rel (R:List Nat) (i j:Nat):Prop:=i<R.length∧(R.getD i 0).testBit j=true
def Post (both:Bool) (es es':List Edg) (m n:Nat) (X:Nat→Nat→Prop):Prop:=∀ i j,X i j→i<m∧j<n∧Ok both es es' X i j
structure Inv (both:Bool) (es es':List Edg) (m n:Nat) (R:List Nat):Prop where
 len:R.length=m
 small:∀ r∈R,r<2 ^ n
 great:∀ X,Post both es es' m n X→∀ i j,X i j→rel R i j
structure Gfp (both:Bool) (es es':List Edg) (m n:Nat) (R:List Nat):Prop extends Inv both es es' m n R where
 post:∀ i j,rel R i j→Ok both es es' (rel R) i j
theorem zcI {both:Bool} {es es':List Edg} {m n:Nat} {R:List Nat}(h:Inv both es es' m n R) {i j:Nat}(hr:rel R i j):i<m∧j<n:=by
 refine⟨by have:=h.len;have:=hr.1;omega,?_⟩
 rcases Nat.lt_or_ge j n with h1|h1
 ·exact h1
 ·have hi:=hr.1
  have hm:=h.small _ (List.getElem_mem hi)
  have:=Nat.testBit_lt_two_pow (Nat.lt_of_lt_of_le hm (Nat.pow_le_pow_right (by omega) h1))
  have h2:=hr.2
  rw [List.getD_eq_getElem?_getD,List.getElem?_eq_getElem hi] at h2
  simp [this] at h2
theorem Gfp.unique {both:Bool} {es es':List Edg} {m n:Nat} {R S:List Nat}(h:Gfp both es es' m n R)(h':Gfp both es es' m n S):R=S:=by
 have p:Post both es es' m n (rel R):=fun i j hr=>⟨(zcI h.toInv hr).1,(zcI h.toInv hr).2,h.post i j hr⟩
 have p':Post both es es' m n (rel S):=fun i j hr=>⟨(zcI h'.toInv hr).1,(zcI h'.toInv hr).2,h'.post i j hr⟩
 have e:∀ i j,rel R i j↔rel S i j:=fun i j=>⟨fun x=>h'.great _ p i j x,fun x=>h.great _ p' i j x⟩
 apply List.ext_getElem (by rw [h.len,h'.len])
 intro i h1 h2
 apply Nat.eq_of_testBit_eq
 intro j
 have:=e i j
 simp only [rel,h1,h2,true_and,List.getD_eq_getElem?_getD,List.getElem?_eq_getElem,Option.getD_some] at this
 exact Bool.eq_iff_iff.2 this
theorem Inv.start (both:Bool) (es es':List Edg) (m n:Nat):Inv both es es' m n (List.replicate m (2 ^ n - 1)) where
 len:=by simp
 small r hr:=by
  have:=Nat.two_pow_pos n
  rw [List.eq_of_mem_replicate hr];omega
 great X hX i j hx:=by
  obtain⟨h1,h2,_⟩:=hX i j hx
  refine⟨by simpa using h1,?_⟩
  rw [List.getD_eq_getElem?_getD,List.getElem?_replicate,if_pos h1,Option.getD_some,Nat.testBit_two_pow_sub_one]
  simpa using h2
theorem sub_part (p q r:Nat)(h:1≤q):p*q+r - p=p*(q - 1)+r:=by
 obtain⟨d,rfl⟩:∃ d,q=d+1:=⟨q - 1,by omega⟩
 rw [Nat.mul_add,Nat.mul_one,Nat.add_sub_cancel]
 omega
theorem yV01a2 {P:Prop}(h:P:=by
 obtain⟨d,rfl⟩:∃ d,k=j+d:=⟨k - j,by omega⟩
 rw [Nat.add_sub_cancel_left]
 cases d with
 |zero=>simp [Nat.testBit_zero];omega
 |succ d =>
  rw [Nat.testBit_succ,Nat.testBit_succ,show (q - 1) / 2=q / 2 by omega]
  simp
 ):P:=h
theorem testBit_part {q r j:Nat}(hq:q % 2=1)(hr:r<2 ^ j) (k:Nat):(2 ^ j*(q - 1)+r).testBit k=((2 ^ j*q+r).testBit k&&!decide (k=j)):=by
 rw [Nat.testBit_two_pow_mul_add _ hr,Nat.testBit_two_pow_mul_add _ hr]
 by_cases hk:k<j
 ·rw [if_pos hk,if_pos hk]
  have:k≠j:=by omega
  simp [this]
 ·rw [if_neg hk,if_neg hk]
  exact yV01a2
theorem zbz {x j:Nat}(h:x.testBit j=true) (k:Nat):(x - 2 ^ j).testBit k=(x.testBit k&&!decide (k=j)):=by
 have hodd:x / 2 ^ j % 2=1:=by
  have:=h
  rw [Nat.testBit_eq_decide_div_mod_eq] at this
  simpa using this
 have hdm:=Nat.div_add_mod x (2 ^ j)
 have hlt:=Nat.mod_lt x (Nat.two_pow_pos j)
 have hq:1≤x / 2 ^ j:=by generalize x / 2 ^ j=q at hodd;omega
 have:=testBit_part hodd hlt k
 rw [← sub_part _ _ _ hq,hdm] at this
 exact this
theorem rel_set {R:List Nat} {i j:Nat}(h:rel R i j) (a b:Nat):rel (R.set i (R.getD i 0 - 2 ^ j)) a b↔rel R a b∧¬ (a=i∧b=j):=by
 unfold rel
 have h1:=h.1
 have h2:=h.2
 simp only [List.length_set,List.getD_eq_getElem?_getD] at h2 ⊢
 by_cases ha:a=i
 ·subst ha
  rw [List.getElem?_set_self h1,Option.getD_some,zbz h2]
  by_cases hb:b=j
  ·simp [hb]
  ·simp [hb]
 ·rw [List.getElem?_set_ne (by omega)]
  simp [ha]
theorem Inv.drop {both:Bool} {es es':List Edg} {m n:Nat} {R:List Nat} {i j:Nat}(h:Inv both es es' m n R)(hr:rel R i j)(hn:¬ Ok both es es' (rel R) i j):Inv both es es' m n (R.set i (R.getD i 0 - 2 ^ j)) where
 len:=by rw [List.length_set,h.len]
 small r hm:=by
  rcases List.mem_or_eq_of_mem_set hm with h1|h1
  ·exact h.small r h1
  ·have hi:=hr.1
   have:=h.small _ (List.getElem_mem hi)
   rw [h1,List.getD_eq_getElem?_getD,List.getElem?_eq_getElem hi,Option.getD_some]
   exact Nat.lt_of_le_of_lt (Nat.sub_le _ _) this
 great X hX a b hx:=by
  rw [rel_set hr]
  refine⟨h.great X hX a b hx,?_⟩
  rintro ⟨rfl,rfl⟩
  exact hn ((hX _ _ hx).2.2.mono (h.great X hX))
theorem sum_drop {R:List Nat} {i j:Nat}(hr:rel R i j):(R.set i (R.getD i 0 - 2 ^ j)).sum+2 ^ j=R.sum:=by
 obtain⟨hi,hb⟩:=hr
 have hle:=Nat.ge_two_pow_of_testBit hb
 induction R generalizing i with
 |nil=>simp at hi
 |cons x r ih =>
  cases i with
  |zero=>simp at hle ⊢;omega
  |succ i =>
   simp only [List.getD_cons_succ] at hb hle ⊢
   have:=ih (by simpa using hi) hb hle
   simp only [List.set_cons_succ,List.sum_cons]
   omega
theorem zbs {R:List Nat} {i j:Nat}(hr:rel R i j):(R.set i (R.getD i 0 - 2 ^ j)).sum<R.sum:=by
 have:=sum_drop hr
 have:=Nat.two_pow_pos j
 omega
def succ (es:List Edg) (i l:Int):Nat:=es.foldl (fun m e=>if e.fr=i∧e.le=l then m|||2 ^ e.ta.toNat else m) 0
theorem succ_snoc (es:List Edg) (e:Edg) (i l:Int):succ (es++[e]) i l=if e.fr=i∧e.le=l then succ es i l|||2 ^ e.ta.toNat else succ es i l:=by
 simp [succ]
theorem and_pred (k m:Nat):(2 ^ k*(2*m+1))&&&(2 ^ k*(2*m+1) - 1)=2 ^ k*(2*m):=by
 have hp:=Nat.two_pow_pos k
 have e:2 ^ k*(2*m+1) - 1=2 ^ k*(2*m)+(2 ^ k - 1):=by rw [Nat.mul_add,Nat.mul_one];omega
 rw [e]
 apply Nat.eq_of_testBit_eq
 intro i
 have e0:∀ q,(2 ^ k*q).testBit i=if i<k then false else q.testBit (i - k):=fun q=>by
  have:=Nat.testBit_two_pow_mul_add q (b:=0) (i:=k) hp i
  rw [Nat.add_zero] at this
  rw [this,Nat.zero_testBit]
 rw [Nat.testBit_and,e0,Nat.testBit_two_pow_mul_add _ (by omega),e0]
 by_cases hi:i<k
 ·simp [hi]
 ·simp only [hi,if_false]
  cases hd:i - k with
  |zero=>simp [Nat.testBit_zero]
  |succ d=>rw [Nat.testBit_succ,Nat.testBit_succ,show (2*m+1) / 2=m by omega,show (2*m) / 2=m by omega];simp
theorem lowest {x:Nat}(h0:x≠0)(hs:Sm x):∃ k,Lib.ctz 64 x=k∧k<32∧x.testBit k=true∧(∀ i,i<k→x.testBit i=false)∧x&&&(x - 1)=x - 2 ^ k∧2 ^ k≤x:=by
 have hx:=hs.lt
 obtain⟨m,hm,hk⟩:=Lib.ctzFrom_spec 64 x (by omega) (by omega)
 have e:Lib.ctz 64 x=Lib.ctzFrom 64 x:=by simp [Lib.ctz,h0]
 generalize Lib.ctzFrom 64 x=k at *
 have hp:=Nat.two_pow_pos k
 have hle:2 ^ k≤x:=by rw [hm];exact Nat.le_mul_of_pos_right _ (by omega)
 have e0:∀ q i,(2 ^ k*q).testBit i=if i<k then false else q.testBit (i - k):=fun q i=>by
  have:=Nat.testBit_two_pow_mul_add q (b:=0) (i:=k) hp i
  rw [Nat.add_zero] at this
  rw [this,Nat.zero_testBit]
 refine⟨k,e,?_,?_,fun i hi=>?_,?_,hle⟩
 ·apply Nat.lt_of_not_le
  intro h32
  have:=Nat.pow_le_pow_right (n:=2) (by omega) h32
  omega
 ·rw [hm,e0];simp
 ·rw [hm,e0];simp [hi]
 ·rw [hm,and_pred,Nat.mul_add,Nat.mul_one,Nat.add_sub_cancel]
theorem zdu {x j:Nat}(h:x.testBit j=true)(hl:∀ i,i<j→x.testBit i=false) (k:Nat):(x - 2 ^ j).testBit k=(x.testBit k&&!decide (k=j)):=by
 have hodd:x / 2 ^ j % 2=1:=by
  have:=h
  rw [Nat.testBit_eq_decide_div_mod_eq] at this
  simpa using this
 have hp:=Nat.two_pow_pos j
 have hr:x % 2 ^ j=0:=by
  apply Nat.eq_of_testBit_eq
  intro i
  rw [Nat.testBit_mod_two_pow,Nat.zero_testBit]
  by_cases hi:i<j
  ·simp [hi,hl i hi]
  ·simp [hi]
 have hdm:=Nat.div_add_mod x (2 ^ j)
 rw [hr,Nat.add_zero] at hdm
 generalize x / 2 ^ j=q at *
 have e0:∀ q i,(2 ^ j*q).testBit i=if i<j then false else q.testBit (i - j):=fun q i=>by
  have:=Nat.testBit_two_pow_mul_add q (b:=0) (i:=j) hp i
  rw [Nat.add_zero] at this
  rw [this,Nat.zero_testBit]
 have e:x - 2 ^ j=2 ^ j*(q - 1):=by rw [← hdm,Nat.mul_sub,Nat.mul_one]
 rw [e,← hdm,e0,e0]
 by_cases hk:k<j
 ·simp [hk]
 ·simp only [hk,if_false]
  exact yV01a2
theorem zdf {x k:Nat}(h:x.testBit k=true)(hl:∀ i,i<k→x.testBit i=false):∀ n,(n≤k→letters x n=[]∧letters (x - 2 ^ k) n=[])∧(k<n→letters x n=k :: letters (x - 2 ^ k) n)
 |0=>⟨fun _=>⟨rfl,rfl⟩,fun h=>by omega⟩
 |n+1=>by
  have ih:=zdf h hl n
  have hb:=zdu h hl n
  rw [zaA,zaA,hb]
  refine⟨fun hn=>?_,fun hn=>?_⟩
  ·obtain⟨e1,e2⟩:=ih.1 (by omega)
   rw [e1,e2,hl n (by omega)]
   simp
  ·rcases Nat.lt_or_ge k n with h1|h1
   ·rw [ih.2 h1]
    have:n≠k:=by omega
    simp [this]
   ·obtain⟨e1,e2⟩:=ih.1 h1
    obtain rfl:n=k:=by omega
    rw [e1,e2,h]
    simp
theorem letters_step {x:Nat}(h0:x≠0)(hs:Sm x):letters x 32=Lib.ctz 64 x :: letters (x&&&(x - 1)) 32∧x&&&(x - 1)<x∧Lib.ctz 64 x<32:=by
 obtain⟨k,e,hk,hb,hl,ha,hle⟩:=lowest h0 hs
 have hp:=Nat.two_pow_pos k
 rw [e,ha]
 exact⟨(zdf hb hl 32).2 hk,by omega,hk⟩
theorem zaU (a:Nat)(hs:Sm a) (w:World)(hT:Tab w) :
  Calls Tryd.prog 66 #[.int .i64 a] w (zdR w (letters a 32)):=by
 have hlen:=zn a 32
 go_enter Tryd.func66,Tryd.ntmps66
 go_wp2
 go_loopw [0,3,4] (fun s v _ wr=>∃ x:Nat,s=.int .i64 x∧Sm x∧∃ o:List Nat,Hid (letters a 32=o++letters x 32)∧wr.ownsRow w.heap.size 3 1 v o.length (zF o)∧Ext w wr)
  (fun s _ _ _=>(intOf s).toNat)
 case atStart=>exact⟨a,rfl,hs,[],rfl,World.ownsRow_nil _ _ _ _,Ext.refl _⟩
 case round =>
  obtain⟨x,rfl,hx,o,ho,zep,zer⟩:=hrel
  have hx':=hx.lt
  have hol:o.length+(letters x 32).length≤32:=by have:=ho.out;rw [this,List.length_append] at hlen;exact hlen
  by_cases h0:x=0
  ·subst h0
   obtain⟨A,c,rfl⟩:=zl zep
   go_wp2
   go_ret
   have hl0:=ho.out
   rw [show letters 0 32=[] by decide,List.append_nil] at hl0
   exact⟨A,c,by rw [hl0];rfl,by rw [hl0];exact zep,zer⟩
  ·obtain⟨hl,hlt,hc⟩:=letters_step h0 hx
   have Hl:=za hl
   have hne:((x:Int) != 0)=true:=by simp;omega
   have hT':=hT.ext zer
   have hb:=za (zbj (a:=x) (b:=x - 1) hx (by unfold Sm;omega))
   have hol':o.length<32:=by rw [hl] at hol;simp at hol;omega
   clear hl hlen hol
   have hi:=za (show ((x:Int) - 1)=((x - 1:Nat):Int) by omega)
   go_wp2_with (first
    |(go_at_call 105;refine (tz x (by omega) h0 _ hT').mono ?_;rintro e w' ⟨rfl,rfl⟩)
    |(at_builtin;refine zI w wr rfl (.tmp 10) (.tmp 14) _ rfl 3 _ 1 8 Tryd.underlying62 zS rfl (by decide) u3 _ _ _ _ rfl rfl zer zep rfl (zaC _) (by unfold maxLen;omega) (by omega) ?_;intro v' w1 hext1 zet hg1 hat1))
   go_roundw
   case rel=>exact⟨x&&&(x - 1),by rw [hi.out,hb.out],Nat.lt_of_le_of_lt Nat.and_le_left hx,o++[Lib.ctz 64 x],by have:=ho.out;unfold Hid;rw [this,Hl.out];simp,by simpa [zF] using zet,by assumption⟩
   case measure =>
    have:=hb.out
    rw [← hi.out] at this
    simp [intOf]
    omega
theorem foldl_bit (es:List Edg) (p:Edg→Prop) [DecidablePred p] (m k:Nat):(es.foldl (fun m e=>if p e then m|||2 ^ e.ta.toNat else m) m).testBit k=true↔m.testBit k=true∨∃ e∈es,p e∧e.ta.toNat=k:=by
 induction es generalizing m with
 |nil=>simp
 |cons e r ih =>
  rw [List.foldl_cons,ih]
  by_cases hp:p e
  ·rw [if_pos hp,Nat.testBit_or,Nat.testBit_two_pow]
   simp only [Bool.or_eq_true,decide_eq_true_eq,List.mem_cons]
   constructor
   ·rintro ((h|h)|⟨e',h1,h2⟩)
    ·exact Or.inl h
    ·exact Or.inr ⟨e,Or.inl rfl,hp,h⟩
    ·exact Or.inr ⟨e',Or.inr h1,h2⟩
   ·rintro (h|⟨e',h1|h1,h2⟩)
    ·exact Or.inl (Or.inl h)
    ·subst h1;exact Or.inl (Or.inr h2.2)
    ·exact Or.inr ⟨e',h1,h2⟩
  ·rw [if_neg hp]
   constructor
   ·rintro (h|⟨e',h1,h2⟩)
    ·exact Or.inl h
    ·exact Or.inr ⟨e',List.mem_cons_of_mem _ h1,h2⟩
   ·rintro (h|⟨e',h1,h2⟩)
    ·exact Or.inl h
    ·rcases List.mem_cons.1 h1 with h1|h1
     ·subst h1;exact absurd h2.1 hp
     ·exact Or.inr ⟨e',h1,h2⟩
theorem zbF (es:List Edg) (i l:Int) (k:Nat):(succ es i l).testBit k=true↔∃ e∈es,(e.fr=i∧e.le=l)∧e.ta.toNat=k:=by
 have:=foldl_bit es (fun e=>e.fr=i∧e.le=l) 0 k
 simpa [succ] using this
def Few (n:Nat) (es:List Edg):Prop:=∀ e∈es,(0≤e.fr∧e.fr<n)∧(0≤e.le∧e.le<6)∧(0≤e.ta∧e.ta<n)
theorem zbZ {n:Nat} {es:List Edg}(h:Few n es) (i l k:Nat):E es i l k↔(succ es i l).testBit k=true:=by
 rw [zbF]
 constructor
 ·rintro ⟨e,he,h1,h2,h3⟩
  exact⟨e,he,⟨h1,h2⟩,by omega⟩
 ·rintro ⟨e,he,⟨h1,h2⟩,h3⟩
  have:=h e he
  exact⟨e,he,h1,h2,by omega⟩
theorem succ_lt {n:Nat} {es:List Edg}(h:Few n es) (i l:Int):succ es i l<2 ^ n:=by
 apply Nat.lt_pow_two_of_testBit
 intro k hk
 rw [Bool.eq_false_iff]
 intro hb
 obtain⟨e,he,_,h3⟩:=(zbF es i l k).1 hb
 have:=h e he
 omega
theorem zcD {n:Nat} {es:List Edg}(h:Few n es)(hn:n≤16) (i l:Int):Sm (succ es i l):=
 Nat.lt_of_lt_of_le (succ_lt h i l) (by rw [show (4294967296:Nat)=2 ^ 32 from rfl];exact Nat.pow_le_pow_right (by omega) (by omega))
def diff (a b:Nat):Nat:=a ^^^ (a&&&b)
theorem zce (a b k:Nat):(diff a b).testBit k=(a.testBit k&&!b.testBit k):=by
 unfold diff
 rw [Nat.testBit_xor,Nat.testBit_and]
 cases a.testBit k<;>cases b.testBit k<;>rfl
theorem diff_le (a b:Nat):diff a b≤a:=by
 apply Nat.le_of_testBit
 intro k hk
 rw [zce] at hk
 simp at hk
 exact hk.1
theorem zaN {a:Nat}:a≠0↔∃ k,a.testBit k=true:=by
 constructor
 ·intro h
  exact Nat.exists_testBit_of_ne_zero h
 ·rintro ⟨k,hk⟩ rfl
  simp at hk
def zcA (R:List Nat) (ks:List Nat):Nat:=ks.foldl (fun m k=>m|||R.getD k 0) 0
theorem zdO (R ks:List Nat) (k:Nat):zcA R (ks++[k])=zcA R ks|||R.getD k 0:=by simp [zcA]
theorem orAll_bit (R ks:List Nat) (j:Nat):(zcA R ks).testBit j=true↔∃ k∈ks,(R.getD k 0).testBit j=true:=by
 have:∀ m,(ks.foldl (fun m k=>m|||R.getD k 0) m).testBit j=true↔m.testBit j=true∨∃ k∈ks,(R.getD k 0).testBit j=true:=by
  induction ks with
  |nil=>simp
  |cons x r ih =>
   intro m
   rw [List.foldl_cons,ih,Nat.testBit_or]
   simp only [Bool.or_eq_true,List.mem_cons,exists_eq_or_imp]
   exact or_assoc
 simpa [zcA] using this 0
theorem zO {a n k:Nat}:k∈letters a n↔k<n∧a.testBit k=true:=by simp [letters]
def ansL (both:Bool) (es es':List Edg) (R:List Nat) (i j l:Nat):Bool:=
 (letters (succ es i l) 32).all (fun k=>!(R.getD k 0&&&succ es' j l==0))&&!(both&&diff (succ es' j l) (zcA R (letters (succ es i l) 32)) != 0)
def ansB (both:Bool) (es es':List Edg) (R:List Nat) (i j:Nat):Bool:=(List.range 6).all (ansL both es es' R i j)
theorem zbn {R:List Nat} {k j:Nat}(h:(R.getD k 0).testBit j=true):rel R k j:=by
 refine⟨?_,h⟩
 rcases Nat.lt_or_ge k R.length with h1|h1
 ·exact h1
 ·rw [List.getD_eq_getElem?_getD,List.getElem?_eq_none h1] at h
  simp at h
theorem ansB_iff {both:Bool} {m n:Nat} {es es':List Edg} {R:List Nat} {i j:Nat}(h:Few m es)(h':Few n es')(hm:m≤16):ansB both es es' R i j=true↔Ok both es es' (rel R) i j:=by
 unfold ansB ansL
 simp only [List.all_eq_true,List.mem_range,Bool.and_eq_true,Bool.not_eq_true',zO]
 have hk32:∀ {l k:Nat},(succ es i l).testBit k=true→k<32:=fun {l k} hk=>by
  obtain⟨e,he,_,h3⟩:=(zbF es i l k).1 hk
  have:=h e he
  omega
 have hl6:∀ {i l k:Nat},E es i l k→l<6:=fun {i l k} hk=>by
  obtain⟨e,he,_,h3,_⟩:=hk
  have:=h e he
  omega
 have hl6':∀ {i l k:Nat},E es' i l k→l<6:=fun {i l k} hk=>by
  obtain⟨e,he,_,h3,_⟩:=hk
  have:=h' e he
  omega
 constructor
 ·intro hA
  refine⟨fun l k hk=>?_,fun hb l k' hk'=>?_⟩
  ·have hk1:=(zbZ h i l k).1 hk
   have h1:=(hA l (hl6 hk)).1 k ⟨hk32 hk1,hk1⟩
   have h2:R.getD k 0&&&succ es' j l≠0:=by simpa using h1
   obtain⟨k',hk'⟩:=zaN.1 h2
   rw [Nat.testBit_and,Bool.and_eq_true] at hk'
   exact⟨k',(zbZ h' j l k').2 hk'.2,zbn hk'.1⟩
  ·have h1:=(hA l (hl6' hk')).2
   rw [hb,Bool.true_and] at h1
   have h2:diff (succ es' j l) (zcA R (letters (succ es i l) 32))=0:=by simpa using h1
   have h3:=zce (succ es' j l) (zcA R (letters (succ es i l) 32)) k'
   rw [h2,(zbZ h' j l k').1 hk'] at h3
   simp at h3
   obtain⟨k,hk,hr⟩:=(orAll_bit _ _ _).1 h3
   exact⟨k,(zbZ h i l k).2 (zO.1 hk).2,zbn hr⟩
 ·rintro ⟨h1,h2⟩ l hl
  refine⟨fun k hk=>?_,?_⟩
  ·obtain⟨k',hk',hr⟩:=h1 l k ((zbZ h i l k).2 hk.2)
   have:R.getD k 0&&&succ es' j l≠0:=zaN.2 ⟨k',by rw [Nat.testBit_and,hr.2,(zbZ h' j l k').1 hk'];rfl⟩
   simpa using this
  ·cases hb:both
   ·rfl
   ·rw [Bool.true_and]
    have:diff (succ es' j l) (zcA R (letters (succ es i l) 32))=0:=by
     apply Classical.byContradiction
     intro hne
     obtain⟨k',hk'⟩:=zaN.1 hne
     rw [zce,Bool.and_eq_true] at hk'
     obtain⟨k,hk,hr⟩:=h2 hb l k' ((zbZ h' j l k').2 hk'.1)
     have hk1:=(zbZ h i l k).1 hk
     have:=(orAll_bit R (letters (succ es i l) 32) k').2 ⟨k,zO.2 ⟨hk32 hk1,hk1⟩,hr.2⟩
     rw [this] at hk'
     simp at hk'
    rw [this];rfl
theorem wrap_pow2 {t:Nat}(ht:t<32):wrap64 ((2:Int) ^ t)=((2 ^ t:Nat):Int):=by
 have hp:=(Sm.bit ht).lt
 have e:(2:Int) ^ t=((2 ^ t:Nat):Int):=by simp
 rw [e]
 generalize (2:Nat) ^ t=p at *
 unfold wrap64
 omega
theorem zah (n:Nat)(hn:n<32) (w:World) :
  Calls Tryd.prog 68 #[.int .i64 n] w fun e w'=>e=.returned (.int .i64 (2 ^ n:Nat))∧w=w':=by
 have hu:IntKind.u64.wrap (n:Int)=n:=by rw [IntKind.wrap_u64];omega
 have h64:(n:Int)≤64:=by omega
 have hw:=za (wrap_pow2 hn)
 go_enter Tryd.func68,Tryd.ntmps68
 go_wp2
 go_ret
 exact⟨zaO (by rw [← hw.out]),rfl⟩
def zaE (es:List Edg) (set:Nat) (l:Int):Nat:=es.foldl (fun m e=>if e.le=l∧set.testBit e.fr.toNat=true then m|||2 ^ e.ta.toNat else m) 0
theorem stepB_snoc (es:List Edg) (e:Edg) (set:Nat) (l:Int):zaE (es++[e]) set l=if e.le=l∧set.testBit e.fr.toNat=true then zaE es set l|||2 ^ e.ta.toNat else zaE es set l:=by simp [zaE]
theorem stepB_bit (es:List Edg) (set:Nat) (l:Int) (k:Nat):(zaE es set l).testBit k=true↔∃ e∈es,(e.le=l∧set.testBit e.fr.toNat=true)∧e.ta.toNat=k:=by
 have:=foldl_bit es (fun e=>e.le=l∧set.testBit e.fr.toNat=true) 0 k
 simpa [zaE] using this
theorem zcX {n:Nat} {es:List Edg}(h:Few n es) (set:Nat) (l:Int):zaE es set l<2 ^ n:=by
 apply Nat.lt_pow_two_of_testBit
 intro k hk
 rw [Bool.eq_false_iff]
 intro hb
 obtain⟨e,he,_,h3⟩:=(stepB_bit es set l k).1 hb
 have:=h e he
 omega
theorem zcq {n:Nat} {es:List Edg}(h:Few n es) (j:Nat) (l:Int):zaE es (2 ^ j) l=succ es j l:=by
 apply Nat.eq_of_testBit_eq
 intro k
 rw [Bool.eq_iff_iff,stepB_bit,zbF]
 constructor
 ·rintro ⟨e,he,⟨h1,h2⟩,h3⟩
  have:=h e he
  rw [Nat.testBit_two_pow,decide_eq_true_eq] at h2
  exact⟨e,he,⟨by omega,h1⟩,h3⟩
 ·rintro ⟨e,he,⟨h1,h2⟩,h3⟩
  exact⟨e,he,⟨h2,by rw [Nat.testBit_two_pow,decide_eq_true_eq];omega⟩,h3⟩
theorem zaQ {lo hi:Nat} {A:Option Addr} {n c:Nat} {s:Sys} {set:Nat} {l:Int} {k0:Nat} {w:World}(h:zQ w lo hi A n s)(hf:Few k0 s.edges)(hk0:k0≤16)(hset:Sm set) :
  Calls Tryd.prog 93 #[.agg #[.int .i64 s.al,.int .i64 s.st,.slice A n c],.int .i64 set,.int .i64 l] w fun e w'=>e=.returned (.int .i64 (zaE s.edges set l:Nat))∧Ext w w':=by
 have hn:=h.2.len
 have hL:=za h.1
 have HR:=za (fun W (hW:Ext w W)=>h.2.ext hW)
 have Hf:=za hf
 clear hf
 go_enter Tryd.func93,Tryd.ntmps93
 go_wp2
 go_loopw [7,8] (fun v i wr=>∃ k:Nat,k≤n∧i=.int .i64 k∧∃ y:Nat,v=.int .i64 y∧Sm y∧Hid (y=zaE (s.edges.take k) set l)∧Ext w wr∧Ext (w.alloc (.cells #[.int .i64 s.al,.int .i64 s.st,.slice A n c] 39)) wr) (fun _ i _=>n - (intOf i).toNat)
 case atStart=>exact⟨0,Nat.zero_le _,rfl,0,rfl,by unfold Sm;omega,rfl,(Ext.refl _).alloc _,Ext.refl _⟩
 case round =>
  obtain⟨k,hk,rfl,y,rfl,hy,hyo,zer,hexb⟩:=hrel
  have cb:=fun j=>zbN (j:=j) hexb
  by_cases hlt:k<n
  ·obtain⟨b,o,x,rfl,_,_,hx,c0,c1,c2⟩:=(HR.out wr zer).edge hlt
   obtain⟨⟨f0,f1⟩,⟨g0,g1⟩,⟨t0,t1⟩⟩:=Hf.out x (List.mem_of_getElem? hx.out)
   have Htk:=za (show s.edges.take (k+1)=s.edges.take k++[x] by rw [List.take_add_one,hx.out];rfl)
   obtain⟨f,hfe⟩:∃ f:Nat,x.fr=f:=⟨x.fr.toNat,by omega⟩
   obtain⟨t,hte⟩:∃ t:Nat,x.ta=t:=⟨x.ta.toNat,by omega⟩
   rw [hfe] at c0 f0 f1
   rw [hte] at c2 t0 t1
   have hs1:=za (stepB_snoc (s.edges.take k) x set l)
   by_cases hle:x.le=l
   ·have hle':(x.le==l)=true:=by simp [hle]
    have Hle:=za hle
    clear hle
    cases hb:set.testBit f
    ·have Hb:=za hb
     clear hb
     go_wp2_with (go_at_call 33;refine (zA set f hset _ (by omega)).mono ?_;rw [Hb.out];rintro e w' ⟨rfl,rfl⟩)
     go_roundw
     case rel=>exact⟨k+1,by omega,by go_num,y,rfl,hy,by unfold Hid;rw [Htk.out,hs1.out,if_neg (by rintro ⟨_,h2⟩;rw [hfe] at h2;simp [Hb.out] at h2)];exact hyo.out,zer,hexb⟩
     case measure=>simp [intOf];omega
    ·have Hb:=za hb
     clear hb
     have hor:=za (show bits .or .i64 (y:Nat) ((2:Int) ^ t)=((y|||2 ^ t:Nat):Int) by have:=zcw hy (Sm.bit (n:=t) (by omega));rw [show (((2:Nat) ^ t:Nat):Int)=(2:Int) ^ t by simp] at this;exact this)
     go_wp2_with (first
      |(go_at_call 33;refine (zA set f hset _ (by omega)).mono ?_;rw [Hb.out];rintro e w' ⟨rfl,rfl⟩)
      |(go_at_call 68;refine (zah t (by omega) _).mono ?_;rintro e w' ⟨rfl,rfl⟩))
     go_roundw
     case rel=>exact⟨k+1,by omega,by go_num,y|||2 ^ t,by rw [hor.out],hy.or (Sm.bit (by omega)),by unfold Hid;rw [Htk.out,hs1.out,if_pos ⟨Hle.out,by rw [hfe];simpa using Hb.out⟩,← hyo.out,hte];rfl,zer,hexb⟩
     case measure=>simp [intOf];omega
   ·have hle':(x.le==l)=false:=by simp [hle]
    have Hle:=za hle
    clear hle
    go_wp2
    go_roundw
    case rel=>exact⟨k+1,by omega,by go_num,y,rfl,hy,by unfold Hid;rw [Htk.out,hs1.out,if_neg (by rintro ⟨h2,_⟩;exact Hle.out h2)];exact hyo.out,zer,hexb⟩
    case measure=>simp [intOf];omega
  ·obtain rfl:n=k:=by omega
   go_wp2
   go_ret
   exact⟨zaO (by rw [hyo.out,hL.out,List.take_length]),zer⟩
section
variable {P:Program} (w:World)
theorem zeh (base:Nat) (t ty e:TypeId) (i:TypeInfo) (size:Nat)(ht:P.underlying t=some (.slice e))(hi:P.info? e=some i)
  (v:Value) (n:Nat) (xs:List Value) (zep:w.ownsRow base e size v n xs) (c:Nat):(Builtin.append_ #[t,t] ty #[v,.slice none 0 c]).run P w=.ok v w:=by
 rcases zep.2 with ⟨rfl,rfl⟩|⟨g,cap,cur,rfl,_,_,hnc,_⟩
 ·simp [Builtin.append_,run_underlying ht,sizeOf,typeInfo,hi,Builtin.lenOf,Builtin.firstCells]
 ·simp [Builtin.append_,run_underlying ht,sizeOf,typeInfo,hi,Builtin.lenOf,Builtin.firstCells,hnc,storeCells]
theorem zaR {o:Oper} {a:Act} {K:Act→World→Prop} {Q:Exit→Act→World→Prop} (s x:Operand) (t:TypeId)
  (ho:o.op=.call { callee:=.builtin .append,args:=#[s,x],argTypes:=#[t,t] })
  (base:Nat) (e:TypeId) (z:Value) (size bytes:Nat) (ht:P.underlying t=some (.slice e)) (hi:(P.info? e).map (fun i=>(i.zero,i.size,i.bytes))=some (some z,size,bytes)) (hzs:z.cells.size=size) (hsz:0<size)
  (v:Value) (n:Nat) (xs:List Value) (hs:a.eval s=v) (zep:w.ownsRow base e size v n xs)
  (lo hi':Nat) (A:Option Addr) (m c:Nat) (news:List Value) (hx:a.eval x=.slice A m c) (hr:Reads w lo hi' size A m news) (h1:∀ u∈news,u.oneCell'=true)
  (h63:n+m≤maxLen) (hbytes:(n+m)*bytes≤140737488355328) (hbase:base≤w.heap.size)
  (h:∀ v' w',w'.ownsRow base e size v' (n+m) (xs++news)→w.grownBy w' v.ownBlock→(v'.ownBlock=v.ownBlock∨v'.ownBlock=some w.heap.size)→K (a.put o.dst v') w'):o.wp P a w K Q:=by
 obtain⟨i,hi0,hz0,hz1,hz2⟩:=info_parts hi
 have hrun:∃ v' w',(Builtin.append_ #[t,t] o.type #[v,.slice A m c]).run P w=.ok v' w'∧w'.ownsRow base e size v' (n+m) (xs++news)∧w.grownBy w' v.ownBlock∧(v'.ownBlock=v.ownBlock∨v'.ownBlock=some w.heap.size):=by
  by_cases h0:m=0
  ·subst h0
   obtain rfl:news=[]:=List.eq_nil_of_length_eq_zero (by simpa using hr.1)
   cases A with
   |none=>exact⟨v,w,zeh w base t o.type e i size ht hi0 v n xs zep c,by simpa using zep,World.grownBy.refl w _,.inl rfl⟩
   |some ad =>
    obtain⟨v',w',h2,h3,h4,_,h5⟩:=run_append_own_at (P:=P) w base t o.type e i z size bytes ht hi0 hz0 hz1 hz2 hzs hsz v n xs zep ad 0 c [] (by simp) (fun j u hu=>by simp at hu) h1 h63 hbytes hbase
    exact⟨v',w',h2,h3,h4,h5⟩
  ·obtain⟨ad,rfl,_,_,hc⟩:=hr.2.2 (by omega)
   obtain⟨v',w',h2,h3,h4,_,h5⟩:=run_append_own_at (P:=P) w base t o.type e i z size bytes ht hi0 hz0 hz1 hz2 hzs hsz v n xs zep ad m c news hr.1 hc h1 h63 hbytes hbase
   exact⟨v',w',h2,h3,h4,h5⟩
 obtain⟨v',w',h2,h3,h4,h5⟩:=hrun
 unfold Oper.wp execOp
 simp only [ho,resolve,invoke,builtin,Sem.run_bind,Sem.run_pure,Result.andThen_ok,List.map_toArray,List.map_cons,List.map_nil,hs,hx,h2]
 exact h v' w' h3 h4 h5
theorem wpList_onto {ops:Array Oper} {rest:List Oper} {o:Oper} {a:Act} {Q:Exit→Act→World→Prop}(hgd:o.guard=none) (s x:Operand) (t:TypeId)
  (ho:o.op=.call { callee:=.builtin .append,args:=#[s,x],argTypes:=#[t,t] })
  (base:Nat) (e:TypeId) (z:Value) (size bytes:Nat) (ht:P.underlying t=some (.slice e)) (hi:(P.info? e).map (fun i=>(i.zero,i.size,i.bytes))=some (some z,size,bytes)) (hzs:z.cells.size=size) (hsz:0<size)
  (v:Value) (n:Nat) (xs:List Value) (hs:a.eval s=v) (zep:w.ownsRow base e size v n xs)
  (lo hi':Nat) (A:Option Addr) (m c:Nat) (news:List Value) (hx:a.eval x=.slice A m c) (hr:Reads w lo hi' size A m news) (h1:∀ u∈news,u.oneCell'=true)
  (h63:n+m≤maxLen) (hbytes:(n+m)*bytes≤140737488355328) (hbase:base≤w.heap.size)
  (h:∀ v' w',w'.ownsRow base e size v' (n+m) (xs++news)→w.grownBy w' v.ownBlock→(v'.ownBlock=v.ownBlock∨v'.ownBlock=some w.heap.size)→wpList P ops Q rest (a.put o.dst v') w'):wpList P ops Q (o :: rest) a w:=
 wpList_plain hgd fun _ hK=>zaR w s x t ho base e z size bytes ht hi hzs hsz v n xs hs zep lo hi' A m c news hx hr h1 h63 hbytes hbase fun v' w' h2 h3 h4=>hK _ _ (h v' w' h2 h3 h4)
end
theorem zed (l:List Int):∀ u∈ints l,u.oneCell'=true:=by
 intro u hu
 obtain⟨x,_,rfl⟩:=List.mem_map.1 hu
 rfl
theorem zcZ (l:List Bool):∀ u∈zL l,u.oneCell'=true:=by
 intro u hu
 obtain⟨x,_,rfl⟩:=List.mem_map.1 hu
 rfl
section
variable {P:Program} {ops:Array Oper} {Q:Exit→Act→World→Prop} {md:Region.Mode} {S:Array Bool→World→Prop}
def wpAnyL (P:Program) (md:Region.Mode) (ops:Array Oper) (Q:Exit→Act→World→Prop) (S:Array Bool→World→Prop):Nat→Array Bool→Act→World→Prop
 |0,listed,a,w=>Region.ready md ops listed=[]∧Q .normal a w
 |fuel+1,listed,a,w =>
  (Region.ready md ops listed=[]→Q .normal a w) ∧
  ∀ i∈Region.ready md ops listed,wpOp P ops Q i (fun a' w'=>S (listed.setIfInBounds i true) w'∧wpAnyL P md ops Q S fuel (listed.setIfInBounds i true) a' w') a w
theorem zcE:∀ (fuel:Nat) (listed:Array Bool) (a:Act) (w:World),wpAnyL P md ops Q S fuel listed a w→wpAny P md ops Q fuel listed a w
 |0,_,_,_,h=>h
 |fuel+1,_,_,_,h=>⟨h.1,fun i hi=>wpOp_mono (fun a' w' h'=>zcE fuel _ a' w' h'.2) (h.2 i hi)⟩
theorem wpAnyL_first {i:Nat} {oi:Oper} {v:Value} {Si:World→Prop} {G:Array Bool→Prop}(hi:ops[i]?=some oi)(hsel:∀ (j:Nat) (o:Oper) cs b,ops[j]?=some o→o.op≠.select cs b)
  (hQ:∀ c a w,Q (.panic c) (a.put oi.dst v) w→Q (.panic c) a w)
  (hG:∀ listed j,j∈Region.ready md ops listed→G listed→G (listed.setIfInBounds j true))
  (hSi:∀ listed w,G listed→listed.getD i true=false→S listed w→Si w)
  (hup:∀ listed w,S listed w→S (listed.setIfInBounds i true) w) (hdn:∀ listed w,listed.getD i true=false→S (listed.setIfInBounds i true) w→S listed w) :
  ∀ (fuel:Nat) (listed:Array Bool) (a:Act) (w:World),G listed →
   (∀ j oj,ops[j]?=some oj→j≠i→listed.getD j true=false→(∀ e∈oj.after,Region.binds md e=true→e.on≠i)→oi.apart ops oj=true) →
   i∈Region.ready md ops listed→YieldsIf P ops Si oi v a→S listed w →
   wpAnyL P md ops Q S fuel (listed.setIfInBounds i true) (a.put oi.dst v) w→wpAnyL P md ops Q S (fuel+1) listed a w:=by
 intro fuel
 induction fuel with
 |zero =>
  intro listed a w hg _ hr hy hS H
  refine⟨fun h=>(by rw [h] at hr;cases hr),fun j hj=>?_⟩
  by_cases hji:j=i
  ·subst hji;exact hy.wpOp hi (hSi _ _ hg (mem_ready.1 hr).1 hS) ⟨hup _ _ hS,H⟩
  ·have:=ready_mono hj hji
   rw [H.1] at this
   cases this
 |succ fuel ih =>
  intro listed a w hg hfree hr hy hS H
  refine⟨fun h=>(by rw [h] at hr;cases hr),fun j hj=>?_⟩
  by_cases hji:j=i
  ·subst hji;exact hy.wpOp hi (hSi _ _ hg (mem_ready.1 hr).1 hS) ⟨hup _ _ hS,H⟩
  ·have h1:=H.2 j (ready_mono hj hji)
   obtain⟨hjun,oj,hoj,hall⟩:=mem_ready.1 hj
   have hnot:∀ e∈oj.after,Region.binds md e=true→e.on≠i:=fun e he hb heq=>by
    have h1:=hall e he hb
    have h0:=(mem_ready.1 hr).1
    rw [heq] at h1
    rcases Nat.lt_or_ge i listed.size with h' | h'
    ·simp [h'] at h0 h1;rw [h0] at h1;cases h1
    ·simp [Array.getElem?_eq_none h'] at h1
   have h2:=wpOp_putIf hoj (hfree j oj hoj hji hjun hnot) (fun cs b=>hsel i oi cs b hi) (fun cs b=>hsel j oj cs b hoj) hQ hy h1
   have hfree':∀ k ok,ops[k]?=some ok→k≠i→(listed.setIfInBounds j true).getD k true=false →
     (∀ e∈ok.after,Region.binds md e=true→e.on≠i)→oi.apart ops ok=true:=fun k ok hk hki hun hno=>by
    refine hfree k ok hk hki ?_ hno
    by_cases hjk:j=k
    ·subst hjk;exact hjun
    ·rw [getD_set_ne true hjk] at hun;exact hun
   have hiun:(listed.setIfInBounds j true).getD i true=false:=by
    rw [getD_set_ne true hji];exact (mem_ready.1 hr).1
   refine wpOp_mono (fun a' w' h3=>?_) h2
   have h4:S (listed.setIfInBounds j true) w':=hdn _ _ hiun (by rw [Array.setIfInBounds_comm _ _ hji];exact h3.2.1)
   refine⟨h4,ih (listed.setIfInBounds j true) a' w' (hG _ _ hj hg) hfree' (ready_mono hr (Ne.symm hji)) h3.1 h4 ?_⟩
   rw [Array.setIfInBounds_comm _ _ hji]
   exact h3.2.2
end
def Clo (l:List Oper) (listed:Array Bool):Prop:=∀ j,listed.getD j false=true→∀ o,l[j]?=some o→∀ e∈o.after,Region.binds .any e=true→listed.getD e.on false=true
def below (l:List Oper):Nat→Nat→Nat→Bool
 |0,_,_=>false
 |f+1,t,i=>match l[t]? with
  |some o=>o.after.any fun e=>Region.binds .any e&&(e.on==i || below l f e.on i)
  |none=>false
theorem zcv {l:List Oper} {listed:Array Bool}(hc:Clo l listed):∀ (f t i:Nat),below l f t i=true→listed.getD t false=true→listed.getD i false=true
 |0,_,_,h,_=>by simp [below] at h
 |f+1,t,i,h,ht=>by
  unfold below at h
  cases ho:l[t]? with
  |none=>simp [ho] at h
  |some o =>
   simp only [ho] at h
   obtain⟨e,he,hb⟩:=Array.any_eq_true'.1 h
   simp only [Bool.and_eq_true,Bool.or_eq_true,beq_iff_eq] at hb
   have h1:=hc t ht o ho e he hb.1
   rcases hb.2 with h2|h2
   ·rw [← h2];exact h1
   ·exact zcv hc f e.on i h2 h1
theorem zao {l:List Oper} {listed:Array Bool} {j:Nat}(hj:j∈Region.ready .any l.toArray listed)(h:Clo l listed):Clo l (listed.setIfInBounds j true):=by
 intro k hk o ho e he hb
 by_cases hkj:j=k
 ·subst hkj
  obtain⟨_,o',ho',hall⟩:=mem_ready.1 hj
  have:o'=o:=by
   have h1:l[j]?=some o':=by simpa using ho'
   rw [ho] at h1
   exact (Option.some.inj h1).symm
  subst this
  exact getD_set_true (hall e he hb)
 ·rw [getD_set_ne false hkj] at hk
  exact getD_set_true (h k hk o ho e he hb)
def pureOp:Op→Bool
 |.move _ | .assign _ | .pick _ _ _ | .binOp _ _ _ _ _ | .unOp _ _ _ | .fieldAddr _ _ _ | .field _ _ _ | .extract _ _ | .build _ _=>true
 |_=>false
inductive Ord where
 |nil:Ord
 |one:Nat→Ord→Ord
 |two:Nat→Ord→Nat→Ord→Ord
def Ord.of:List Nat→Ord
 |[]=>.nil
 |i :: r=>.one i (Ord.of r)
def Ord.app:List Nat→Ord→Ord
 |[],o=>o
 |i :: r,o=>.one i (Ord.app r o)
def zbK (l:List Oper) (T:List Nat):Ord→Array Bool→Bool
 |.nil,listed=>(Region.ready .any l.toArray listed).isEmpty
 |.one i rest,listed =>
  (match l[i]? with
   |some o=>if zaG o.op then Region.free .any l.toArray listed i&&(Region.ready .any l.toArray listed).contains i&&!T.contains i&&(pureOp o.op || T.all fun t=>below l l.length t i)
    else Region.ready .any l.toArray listed==[i]
   |none=>false)&&zbK l T rest (listed.setIfInBounds i true)
 |.two i r j r',listed=>(i<l.length&&j<l.length&&Region.ready .any l.toArray listed==[i,j])&&(zbK l T r (listed.setIfInBounds i true)&&zbK l T r' (listed.setIfInBounds j true))
def zW (P:Program) (l:List Oper) (T:List Nat) (Q:Exit→Act→World→Prop) (S:World→Prop):Ord→Act→World→Prop
 |.nil,a,w=>Q .normal a w
 |.one i rest,a,w=>match l[i]? with
  |some o=>if zaG o.op then ∃ v,YieldsIf P l.toArray (if pureOp o.op then fun _=>True else S) o v a∧zW P l T Q S rest (a.put o.dst v) w
   else wpOp P l.toArray Q i (fun a' w'=>(T.contains i=false→S w')∧zW P l T Q S rest a' w') a w
  |none=>False
 |.two i r j r',a,w=>wpOp P l.toArray Q i (fun a' w'=>(T.contains i=false→S w')∧zW P l T Q S r a' w') a w∧wpOp P l.toArray Q j (fun a' w'=>(T.contains j=false→S w')∧zW P l T Q S r' a' w') a w
def Ord.len:Ord→Nat
 |.nil=>0
 |.one _ r=>r.len+1
 |.two _ r _ r'=>(if r.len=r'.len then r.len else 0)+1
def Ord.even:Ord→Bool
 |.nil=>true
 |.one _ r=>r.even
 |.two _ r _ r'=>r.len==r'.len&&(r.even&&r'.even)
section
variable {P:Program} {l:List Oper} {Q:Exit→Act→World→Prop} {S:World→Prop} {T:List Nat}
def zbe (T:List Nat) (listed:Array Bool):Prop:=∃ t∈T,listed.getD t false=true
theorem zbc (hs:Region.noSelect l.toArray=true)(hQ:∀ (c:List PanicEntry) (a:Act) (d:Tmp) (v:Value) (w:World),Q (.panic c) (a.put (some d) v) w→Q (.panic c) a w) :
  ∀ (ord:Ord) (listed:Array Bool) (a:Act) (w:World),listed.size=l.length→Clo l listed→ord.even=true→zbK l T ord listed=true→(zbe T listed∨S w)→zW P l T Q S ord a w →
   wpAnyL P .any l.toArray Q (fun listed w=>zbe T listed∨S w) ord.len listed a w
 |.nil,listed,a,w,_,_,_,hok,_,h=>by
  simp only [zbK,List.isEmpty_iff] at hok
  exact⟨hok,h⟩
 |.one i rest,listed,a,w,hsz,hc,hev,hok,hS,h=>by
  cases ho:l[i]? with
  |none=>simp [zbK,ho] at hok
  |some o =>
   have hil:i<l.length:=(List.getElem?_eq_some_iff.1 ho).1
   simp only [zbK,ho,Bool.and_eq_true] at hok
   simp only [zW,ho] at h
   by_cases hq:zaG o.op=true
   ·rw [if_pos hq] at hok h
    simp only [Bool.and_eq_true] at hok
    obtain⟨⟨⟨⟨hf,hrd⟩,hnT⟩,hpure⟩,hrest⟩:=hok
    obtain⟨v,hy,hr⟩:=h
    have hmem:i∈Region.ready .any l.toArray listed:=by simpa using hrd
    have hnT':i∉T:=by simpa using hnT
    have hset:∀ listed:Array Bool,zbe T (listed.setIfInBounds i true)↔zbe T listed:=fun listed=>by
     constructor
     ·rintro ⟨t,ht,hl⟩
      refine⟨t,ht,?_⟩
      rwa [getD_set_ne false (by rintro rfl;exact hnT' ht)] at hl
     ·rintro ⟨t,ht,hl⟩
      exact⟨t,ht,getD_set_true hl⟩
    refine wpAnyL_first (G:=fun listed=>Clo l listed∧listed.size=l.length) (by simpa using ho) (Region.noSelect_spec hs)
     (fun c a w h=>by cases hd:o.dst with|none=>rw [hd] at h;exact h|some d=>rw [hd] at h;exact hQ c a d v w h)
     (fun li j hj hg=>⟨zao hj hg.1,by simpa using hg.2⟩) ?_ (fun li w h=>h.imp (fun x=>(hset li).2 x) id) (fun li w _ h=>h.imp (fun x=>(hset li).1 x) id)
     rest.len listed a w ⟨hc,hsz⟩ (Region.free_spec (by simpa using ho) hf) hmem hy hS ?_
    ·intro li w' hg hun h
     by_cases hp:pureOp o.op=true
     ·rw [if_pos hp];trivial
     ·rw [if_neg hp]
      rcases h with ⟨t,ht,hl⟩|h
      ·exfalso
       simp only [hp,Bool.false_or] at hpure
       have hb:=List.all_eq_true.1 hpure t ht
       have h1:=zcv hg.1 _ _ _ hb hl
       have h2:i<li.size:=by rw [hg.2];exact hil
       simp [h2] at hun h1
       rw [h1] at hun;cases hun
      ·exact h
    ·exact zbc hs hQ rest _ _ _ (by simpa using hsz) (zao hmem hc) hev hrest (hS.imp (fun x=>(hset _).2 x) id) hr
   ·rw [if_neg hq] at hok h
    have hready:Region.ready .any l.toArray listed=[i]:=by simpa using hok.1
    have hmem:i∈Region.ready .any l.toArray listed:=by rw [hready];simp
    refine⟨fun h0=>(by rw [h0] at hready;cases hready),fun j hj=>?_⟩
    rw [hready] at hj
    rw [List.mem_singleton.1 hj]
    refine wpOp_mono (fun a' w' h=>?_) h
    have hS':zbe T (listed.setIfInBounds i true)∨S w':=by
     cases hT:T.contains i
     ·exact Or.inr (h.1 hT)
     ·refine Or.inl ⟨i,by simpa using hT,?_⟩
      have:i<listed.size:=by omega
      simp [this]
    exact⟨hS',zbc hs hQ rest _ _ _ (by simpa using hsz) (zao hmem hc) hev hok.2 hS' h.2⟩
 |.two i r j r',listed,a,w,hsz,hc,hev,hok,hS,h=>by
  simp only [Ord.even,Bool.and_eq_true,beq_iff_eq] at hev
  simp only [zbK,Bool.and_eq_true,decide_eq_true_eq,beq_iff_eq] at hok
  simp only [zW] at h
  obtain⟨⟨⟨hi,hj⟩,hready⟩,hok1,hok2⟩:=hok
  have hlen:(Ord.two i r j r').len=r.len+1:=by simp [Ord.len,hev.1]
  rw [hlen]
  have hm:∀ k,k∈Region.ready .any l.toArray listed↔k=i∨k=j:=fun k=>by rw [hready];simp
  have hS':∀ k w',k<l.length→(T.contains k=false→S w')→zbe T (listed.setIfInBounds k true)∨S w':=fun k w' hk hx=>by
   cases hT:T.contains k
   ·exact Or.inr (hx hT)
   ·refine Or.inl ⟨k,by simpa using hT,?_⟩
    have:k<listed.size:=by omega
    simp [this]
  refine⟨fun h0=>(by rw [h0] at hready;cases hready),fun k hk=>?_⟩
  rcases (hm k).1 hk with hk' | hk'
  ·rw [hk'] at hk ⊢
   refine wpOp_mono (fun a' w' h=>?_) h.1
   exact⟨hS' _ _ hi h.1,zbc hs hQ r _ _ _ (by simpa using hsz) (zao hk hc) hev.2.1 hok1 (hS' _ _ hi h.1) h.2⟩
  ·rw [hk'] at hk ⊢
   refine wpOp_mono (fun a' w' h=>?_) h.2
   have:=zbc hs hQ r' _ _ _ (by simpa using hsz) (zao hk hc) hev.2.2 hok2 (hS' _ _ hj h.1) h.2
   rw [← hev.1] at this
   exact⟨hS' _ _ hj h.1,this⟩
theorem clo_start (l:List Oper):Clo l (Array.replicate l.length false):=by
 intro j hj
 exfalso
 rcases Nat.lt_or_ge j l.length with h|h
 ·simp [h] at hj
 ·simp [Nat.not_lt.2 h] at hj
theorem zdJ {id:Nat} {a:Act} {w:World} (S:World→Prop) (T:List Nat) (ord:Ord)(hm:P.follows .mixedOrders=true)(hlen:ord.len=l.length)(hev:ord.even=true)(hs:Region.noSelect l.toArray=true)(hok:zbK l T ord (Array.replicate l.length false)=true)
  (hQ:∀ (c:List PanicEntry) (a:Act) (d:Tmp) (v:Value) (w:World),Q (.panic c) (a.put (some d) v) w→Q (.panic c) a w) (hS:S w.drew) (h:zW P l T Q S ord a w.drew):(Code.region id l.toArray true).wp P Q a w:=by
 refine wp_region_any hm ?_
 have:=zcE _ _ _ _ (zbc hs hQ ord _ a w.drew (by simp) (clo_start l) hev hok (Or.inr hS) h)
 rw [hlen] at this
 simpa using this
theorem zr {a:Act} {w:World}(h:Q .normal a w):zW P l T Q S .nil a w:=h
theorem tseq_pure {i:Nat} {rest:Ord} {o:Oper} {v:Value} {a:Act} {w:World}(ho:l[i]?=some o)(hq:zaG o.op=true) (_hp:pureOp o.op=true)(hw:Region.wanted o (yielded l.toArray a.tmps)=true)
  (hy:∀ W,(execOp a.eval o).run P W=.ok (.value v) W) (h:zW P l T Q S rest (a.put o.dst v) w):zW P l T Q S (.one i rest) a w:=by
 simp only [zW,ho,hq,if_true]
 exact⟨v,.inl ⟨hw,fun W _=>hy W⟩,h⟩
theorem tseq_read {i:Nat} {rest:Ord} {o:Oper} {v:Value} {a:Act} {w:World}(ho:l[i]?=some o)(hq:zaG o.op=true)(hp:pureOp o.op=false)(hw:Region.wanted o (yielded l.toArray a.tmps)=true)
  (hy:∀ W,S W→(execOp a.eval o).run P W=.ok (.value v) W) (h:zW P l T Q S rest (a.put o.dst v) w):zW P l T Q S (.one i rest) a w:=by
 simp only [zW,ho,hq,hp,if_true]
 exact⟨v,.inl ⟨hw,hy⟩,h⟩
theorem yV01a4 {P:Prop}(h:P:=by
 split
 ·exact⟨undef,.inr ⟨hw,rfl⟩,h⟩
 ·unfold wpOp
  simp only [List.getElem?_toArray,ho,hw,Bool.false_eq_true,if_false]
  exact⟨fun _=>hS,h⟩
 ):P:=h
theorem tseq_skip {i:Nat} {rest:Ord} {o:Oper} {a:Act} {w:World}(ho:l[i]?=some o)(hw:Region.wanted o (yielded l.toArray a.tmps)=false)
  (hS:S w) (h:zW P l T Q S rest (a.put o.dst undef) w):zW P l T Q S (.one i rest) a w:=by
 simp only [zW,ho]
 exact yV01a4
theorem zc {i:Nat} {rest:Ord} {o:Oper} {a:Act} {w:World}
  (h:∀ K:Act→World→Prop,Shut (∀ a w,S w→zW P l T Q S rest a w→K a w)→o.wp P a w K Q) (ho:l[i]?=some o:=by rfl) (hq:zaG o.op=false:=by rfl) (hw:Region.wanted o (yielded l.toArray a.tmps)=true:=by rfl):zW P l T Q S (.one i rest) a w:=by
 simp only [zW,ho,hq]
 unfold wpOp
 simp only [List.getElem?_toArray,ho,hw,if_true]
 exact .inl (h _ fun a w hS hW=>⟨fun _=>hS,hW⟩)
theorem zi {i:Nat} {rest:Ord} {o:Oper} {a:Act} {w:World}
  (h:∀ K:Act→World→Prop,Shut (∀ a w,zW P l T Q S rest a w→K a w)→o.wp P a w K Q) (ho:l[i]?=some o:=by rfl) (hq:zaG o.op=false:=by rfl) (hT:T.contains i=true:=by rfl) (hw:Region.wanted o (yielded l.toArray a.tmps)=true:=by rfl):zW P l T Q S (.one i rest) a w:=by
 simp only [zW,ho,hq]
 unfold wpOp
 simp only [List.getElem?_toArray,ho,hw,if_true]
 exact .inl (h _ fun a w hW=>⟨fun hn=>absurd (hn.symm.trans hT) (by decide),hW⟩)
end
section
variable {P:Program} {l:List Oper} {Q:Exit→Act→World→Prop} {S:World→Prop} {T:List Nat}
theorem yV01a1 {P:Prop}(h:P:=by
 constructor
 ·unfold wpOp
  simp only [List.getElem?_toArray,ho,hw,if_true]
  exact .inl (h1 _ fun a w hS hW=>⟨fun _=>hS,hW⟩)
 ·unfold wpOp
  simp only [List.getElem?_toArray,ho',hw',if_true]
  exact .inl (h2 _ fun a w hS hW=>⟨fun _=>hS,hW⟩)
 ):P:=h
theorem zbf {i j:Nat} {r r':Ord} {o o':Oper} {a:Act} {w:World}
  (h1:∀ K:Act→World→Prop,Shut (∀ a w,S w→zW P l T Q S r a w→K a w)→o.wp P a w K Q) (h2:∀ K:Act→World→Prop,Shut (∀ a w,S w→zW P l T Q S r' a w→K a w)→o'.wp P a w K Q) (ho:l[i]?=some o:=by rfl) (ho':l[j]?=some o':=by rfl) (hw:Region.wanted o (yielded l.toArray a.tmps)=true:=by rfl) (hw':Region.wanted o' (yielded l.toArray a.tmps)=true:=by rfl):zW P l T Q S (.two i r j r') a w:=by
 exact yV01a1
end
theorem zab {P:Program} (wb w:World) {o:Oper} {a:Act} {K:Act→World→Prop} {Q:Exit→Act→World→Prop} (s x:Operand) (t:TypeId)
  (ho:o.op=.call { callee:=.builtin .append,args:=#[s,x],argTypes:=#[t,t] })
  (e:TypeId) (z:Value) (size bytes:Nat) (ht:P.underlying t=some (.slice e)) (hi:(P.info? e).map (fun i=>(i.zero,i.size,i.bytes))=some (some z,size,bytes)) (hzs:z.cells.size=size) (hsz:0<size)
  (v:Value) (n:Nat) (xs:List Value) (us:Array Value) (e':TypeId) (hs:a.eval s=v) (hx:a.eval x=.slice (some ⟨w.heap.size,0,none⟩) 1 1)
  (zer:wb.heap.size≤w.heap.size) (zep:w.ownsRow wb.heap.size e size v n xs) (hus:us.size=size) (h1:∀ u∈us.toList,u.oneCell'=true)
  (h63:n+1≤maxLen) (hbytes:(n+1)*bytes≤140737488355328)
  (h:∀ g cap w',w'.ownsRow wb.heap.size e size (.slice (some ⟨g,0,none⟩) (n+1) cap) (n+1) (xs++us.toList)→w.grownBy w' v.ownBlock→(v.ownBlock=some g∨g=w.heap.size+1)→g<w'.heap.size→K (a.put o.dst (.slice (some ⟨g,0,none⟩) (n+1) cap)) w') :
  o.wp P a (w.alloc (.cells us e')) K Q:=by
 obtain⟨i,hi0,hz0,hz1,hz2⟩:=info_parts hi
 refine wp_append_lies (w.alloc (.cells us e')) s x t ho wb.heap.size e i z size bytes ht hi0 hz0 hz1 hz2 hzs hsz v n xs hs (zep.alloc _) ⟨w.heap.size,0,none⟩ 1 1 us.toList hx (by simpa using hus) ?_ h1 (by omega) h63 hbytes (by simp;omega) (w.heap.size+1) (by simp) ?_
 ·intro j u hu
  rw [zP,Nat.zero_add,(Blk.new w e' us).cell]
  simpa using hu
 ·intro g cap w' hown' hg hat hlt
  have hg':w.grownBy w' v.ownBlock:=⟨hg.os,hg.tape,hg.output,Nat.le_trans (by simp) hg.size,fun k hk hne=>(hg.block k (by simp;omega) hne).trans (Below.heap_alloc w _ k hk)⟩
  exact h g cap w' hown' hg' hat hlt
theorem zJ {P:Program} (wb w:World) {ops:Array Oper} {rest:List Oper} {o:Oper} {a:Act} {Q:Exit→Act→World→Prop}(hgd:o.guard=none) (s x:Operand) (t:TypeId)
  (ho:o.op=.call { callee:=.builtin .append,args:=#[s,x],argTypes:=#[t,t] })
  (e:TypeId) (z:Value) (size bytes:Nat) (ht:P.underlying t=some (.slice e)) (hi:(P.info? e).map (fun i=>(i.zero,i.size,i.bytes))=some (some z,size,bytes)) (hzs:z.cells.size=size) (hsz:0<size)
  (v:Value) (n:Nat) (xs:List Value) (us:Array Value) (e':TypeId) (hs:a.eval s=v) (hx:a.eval x=.slice (some ⟨w.heap.size,0,none⟩) 1 1)
  (zer:wb.heap.size≤w.heap.size) (zep:w.ownsRow wb.heap.size e size v n xs) (hus:us.size=size) (h1:∀ u∈us.toList,u.oneCell'=true)
  (h63:n+1≤maxLen) (hbytes:(n+1)*bytes≤140737488355328)
  (h:∀ g cap w',w'.ownsRow wb.heap.size e size (.slice (some ⟨g,0,none⟩) (n+1) cap) (n+1) (xs++us.toList)→w.grownBy w' v.ownBlock→(v.ownBlock=some g∨g=w.heap.size+1)→g<w'.heap.size→wpList P ops Q rest (a.put o.dst (.slice (some ⟨g,0,none⟩) (n+1) cap)) w') :
  wpList P ops Q (o :: rest) a (w.alloc (.cells us e')):=
 wpList_plain hgd fun _ hK=>zab wb w s x t ho e z size bytes ht hi hzs hsz v n xs us e' hs hx zer zep hus h1 h63 hbytes fun g cap w' h2 h3 h4 h5=>hK _ _ (h g cap w' h2 h3 h4 h5)
theorem tQ {A B:Prop}(h:B) (k:Bx B→A:=by
 intro h0
 repeat (first|(refine tseq_skip rfl rfl (by assumption) ?_;simp only [Act.put,List.setIfInBounds_toArray,List.set_cons_zero,List.set_cons_succ])|(refine tseq_pure (v:=?_) rfl rfl rfl rfl (fun X=>?_) ?_;rotate_left;(focus (go_simp<;>with_reducible rfl));simp only [Act.put,List.setIfInBounds_toArray,List.set_cons_zero,List.set_cons_succ])|(refine tseq_read (v:=?_) rfl rfl rfl rfl (fun X hX=>?_) ?_;rotate_left;(focus (go_simp<;>with_reducible rfl));simp only [Act.put,List.setIfInBounds_toArray,List.set_cons_zero,List.set_cons_succ]))
 exact h0.out):A:=k ⟨h⟩
theorem tR {P:Program} {l:List Oper} {Q:Exit→Act→World→Prop} {id:Nat} {a:Act} {w:World} (S:World→Prop) (T:List Nat) (ord:Ord)(h:zW P l T Q S ord a w.drew)(hm:P.follows .mixedOrders=true:=by kernel_rfl)(hlen:ord.len=l.length:=by rfl)(hev:ord.even=true:=by kernel_rfl)(hs:Region.noSelect l.toArray=true:=by kernel_rfl)(hok:zbK l T ord (Array.replicate l.length false)=true:=by kernel_rfl)
  (hQ:∀ (c:List PanicEntry) (a:Act) (d:Tmp) (v:Value) (w:World),Q (.panic c) (a.put (some d) v) w→Q (.panic c) a w:=by exact fun _ _ _ _ _ h=>h) (hS:S w.drew:=by first|assumption|exact (Ext.refl _).drew|exact (Dr.refl _ _).drew|(refine Ext.drew ?_;assumption)):(Code.region id l.toArray true).wp P Q a w:=
 zdJ S T ord hm hlen hev hs hok hQ hS h
def zdl:Op→Bool
 |.makeFunc _ _ _ | .move _ | .assign _ | .pick _ _ _ | .binOp _ _ _ _ _ | .unOp _ _ _ | .fieldAddr _ _ _ | .field _ _ _ | .extract _ _ | .build _ _=>true
 |_=>false
def zbm:Op→Bool
 |.makeFunc _ _ _=>true
 |o=>zaG o
inductive zE where
 |nil:zE
 |one:Nat→zE→zE
 |two:Nat→zE→Nat→zE→zE
 |three:Nat→zE→Nat→zE→Nat→zE→zE
def zE.of:List Nat→zE
 |[]=>.nil
 |i :: r=>.one i (zE.of r)
def zE.app:List Nat→zE→zE
 |[],o=>o
 |i :: r,o=>.one i (zE.app r o)
def zaW (l:List Oper) (T:List Nat):zE→Array Bool→Bool
 |.nil,listed=>(Region.ready .any l.toArray listed).isEmpty
 |.one i rest,listed =>
  (match l[i]? with
   |some o=>if zbm o.op then Region.free .any l.toArray listed i&&(Region.ready .any l.toArray listed).contains i&&!T.contains i&&(zdl o.op || T.all fun t=>below l l.length t i)
    else Region.ready .any l.toArray listed==[i]
   |none=>false)&&zaW l T rest (listed.setIfInBounds i true)
 |.two i r j r',listed=>(i<l.length&&j<l.length&&Region.ready .any l.toArray listed==[i,j])&&(zaW l T r (listed.setIfInBounds i true)&&zaW l T r' (listed.setIfInBounds j true))
 |.three i r j r' k r'',listed=>(i<l.length&&j<l.length&&k<l.length&&Region.ready .any l.toArray listed==[i,j,k])&&(zaW l T r (listed.setIfInBounds i true)&&zaW l T r' (listed.setIfInBounds j true)&&zaW l T r'' (listed.setIfInBounds k true))
def zG (P:Program) (l:List Oper) (T:List Nat) (Q:Exit→Act→World→Prop) (S:World→Prop):zE→Act→World→Prop
 |.nil,a,w=>Q .normal a w
 |.one i rest,a,w=>match l[i]? with
  |some o=>if zbm o.op then ∃ v,YieldsIf P l.toArray (if zdl o.op then fun _=>True else S) o v a∧zG P l T Q S rest (a.put o.dst v) w
   else wpOp P l.toArray Q i (fun a' w'=>(T.contains i=false→S w')∧zG P l T Q S rest a' w') a w
  |none=>False
 |.two i r j r',a,w=>wpOp P l.toArray Q i (fun a' w'=>(T.contains i=false→S w')∧zG P l T Q S r a' w') a w∧wpOp P l.toArray Q j (fun a' w'=>(T.contains j=false→S w')∧zG P l T Q S r' a' w') a w
 |.three i r j r' k r'',a,w=>wpOp P l.toArray Q i (fun a' w'=>(T.contains i=false→S w')∧zG P l T Q S r a' w') a w∧wpOp P l.toArray Q j (fun a' w'=>(T.contains j=false→S w')∧zG P l T Q S r' a' w') a w∧wpOp P l.toArray Q k (fun a' w'=>(T.contains k=false→S w')∧zG P l T Q S r'' a' w') a w
def zE.len:zE→Nat
 |.nil=>0
 |.one _ r=>r.len+1
 |.two _ r _ _=>r.len+1
 |.three _ r _ _ _ _=>r.len+1
def zE.even:zE→Bool
 |.nil=>true
 |.one _ r=>r.even
 |.two _ r _ r'=>r.len==r'.len&&(r.even&&r'.even)
 |.three _ r _ r' _ r''=>(r.len==r'.len&&r.len==r''.len)&&(r.even&&r'.even&&r''.even)
section
variable {P:Program} {l:List Oper} {Q:Exit→Act→World→Prop} {S:World→Prop} {T:List Nat}
theorem zaB (hs:Region.noSelect l.toArray=true)(hQ:∀ (c:List PanicEntry) (a:Act) (d:Tmp) (v:Value) (w:World),Q (.panic c) (a.put (some d) v) w→Q (.panic c) a w) :
  ∀ (ord:zE) (listed:Array Bool) (a:Act) (w:World),listed.size=l.length→Clo l listed→ord.even=true→zaW l T ord listed=true→(zbe T listed∨S w)→zG P l T Q S ord a w →
   wpAnyL P .any l.toArray Q (fun listed w=>zbe T listed∨S w) ord.len listed a w
 |.nil,listed,a,w,_,_,_,hok,_,h=>by
  simp only [zaW,List.isEmpty_iff] at hok
  exact⟨hok,h⟩
 |.one i rest,listed,a,w,hsz,hc,hev,hok,hS,h=>by
  cases ho:l[i]? with
  |none=>simp [zaW,ho] at hok
  |some o =>
   have hil:i<l.length:=(List.getElem?_eq_some_iff.1 ho).1
   simp only [zaW,ho,Bool.and_eq_true] at hok
   simp only [zG,ho] at h
   by_cases hq:zbm o.op=true
   ·rw [if_pos hq] at hok h
    simp only [Bool.and_eq_true] at hok
    obtain⟨⟨⟨⟨hf,hrd⟩,hnT⟩,hpure⟩,hrest⟩:=hok
    obtain⟨v,hy,hr⟩:=h
    have hmem:i∈Region.ready .any l.toArray listed:=by simpa using hrd
    have hnT':i∉T:=by simpa using hnT
    have hset:∀ listed:Array Bool,zbe T (listed.setIfInBounds i true)↔zbe T listed:=fun listed=>by
     constructor
     ·rintro ⟨t,ht,hl⟩
      refine⟨t,ht,?_⟩
      rwa [getD_set_ne false (by rintro rfl;exact hnT' ht)] at hl
     ·rintro ⟨t,ht,hl⟩
      exact⟨t,ht,getD_set_true hl⟩
    refine wpAnyL_first (G:=fun listed=>Clo l listed∧listed.size=l.length) (by simpa using ho) (Region.noSelect_spec hs)
     (fun c a w h=>by cases hd:o.dst with|none=>rw [hd] at h;exact h|some d=>rw [hd] at h;exact hQ c a d v w h)
     (fun li j hj hg=>⟨zao hj hg.1,by simpa using hg.2⟩) ?_ (fun li w h=>h.imp (fun x=>(hset li).2 x) id) (fun li w _ h=>h.imp (fun x=>(hset li).1 x) id)
     rest.len listed a w ⟨hc,hsz⟩ (Region.free_spec (by simpa using ho) hf) hmem hy hS ?_
    ·intro li w' hg hun h
     by_cases hp:zdl o.op=true
     ·rw [if_pos hp];trivial
     ·rw [if_neg hp]
      rcases h with ⟨t,ht,hl⟩|h
      ·exfalso
       simp only [hp,Bool.false_or] at hpure
       have hb:=List.all_eq_true.1 hpure t ht
       have h1:=zcv hg.1 _ _ _ hb hl
       have h2:i<li.size:=by rw [hg.2];exact hil
       simp [h2] at hun h1
       rw [h1] at hun;cases hun
      ·exact h
    ·exact zaB hs hQ rest _ _ _ (by simpa using hsz) (zao hmem hc) hev hrest (hS.imp (fun x=>(hset _).2 x) id) hr
   ·rw [if_neg hq] at hok h
    have hready:Region.ready .any l.toArray listed=[i]:=by simpa using hok.1
    have hmem:i∈Region.ready .any l.toArray listed:=by rw [hready];simp
    refine⟨fun h0=>(by rw [h0] at hready;cases hready),fun j hj=>?_⟩
    rw [hready] at hj
    rw [List.mem_singleton.1 hj]
    refine wpOp_mono (fun a' w' h=>?_) h
    have hS':zbe T (listed.setIfInBounds i true)∨S w':=by
     cases hT:T.contains i
     ·exact Or.inr (h.1 hT)
     ·refine Or.inl ⟨i,by simpa using hT,?_⟩
      have:i<listed.size:=by omega
      simp [this]
    exact⟨hS',zaB hs hQ rest _ _ _ (by simpa using hsz) (zao hmem hc) hev hok.2 hS' h.2⟩
 |.two i r j r',listed,a,w,hsz,hc,hev,hok,hS,h=>by
  simp only [zE.even,Bool.and_eq_true,beq_iff_eq] at hev
  simp only [zaW,Bool.and_eq_true,decide_eq_true_eq,beq_iff_eq] at hok
  simp only [zG] at h
  obtain⟨⟨⟨hi,hj⟩,hready⟩,hok1,hok2⟩:=hok
  have hlen:(zE.two i r j r').len=r.len+1:=rfl
  rw [hlen]
  have hm:∀ k,k∈Region.ready .any l.toArray listed↔k=i∨k=j:=fun k=>by rw [hready];simp
  have hS':∀ k w',k<l.length→(T.contains k=false→S w')→zbe T (listed.setIfInBounds k true)∨S w':=fun k w' hk hx=>by
   cases hT:T.contains k
   ·exact Or.inr (hx hT)
   ·refine Or.inl ⟨k,by simpa using hT,?_⟩
    have:k<listed.size:=by omega
    simp [this]
  refine⟨fun h0=>(by rw [h0] at hready;cases hready),fun k hk=>?_⟩
  rcases (hm k).1 hk with hk' | hk'
  ·rw [hk'] at hk ⊢
   refine wpOp_mono (fun a' w' h=>?_) h.1
   exact⟨hS' _ _ hi h.1,zaB hs hQ r _ _ _ (by simpa using hsz) (zao hk hc) hev.2.1 hok1 (hS' _ _ hi h.1) h.2⟩
  ·rw [hk'] at hk ⊢
   refine wpOp_mono (fun a' w' h=>?_) h.2
   have:=zaB hs hQ r' _ _ _ (by simpa using hsz) (zao hk hc) hev.2.2 hok2 (hS' _ _ hj h.1) h.2
   rw [← hev.1] at this
   exact⟨hS' _ _ hj h.1,this⟩
 |.three i r j r' k r'',listed,a,w,hsz,hc,hev,hok,hS,h=>by
  simp only [zE.even,Bool.and_eq_true,beq_iff_eq] at hev
  simp only [zaW,Bool.and_eq_true,decide_eq_true_eq,beq_iff_eq] at hok
  simp only [zG] at h
  obtain⟨⟨⟨⟨hi,hj⟩,hk⟩,hready⟩,⟨hok1,hok2⟩,hok3⟩:=hok
  obtain⟨⟨e1,e2⟩,⟨v1,v2⟩,v3⟩:=hev
  have hlen:(zE.three i r j r' k r'').len=r.len+1:=rfl
  rw [hlen]
  have hm:∀ x,x∈Region.ready .any l.toArray listed↔x=i∨x=j∨x=k:=fun x=>by rw [hready];simp
  have hS':∀ k w',k<l.length→(T.contains k=false→S w')→zbe T (listed.setIfInBounds k true)∨S w':=fun k w' hk hx=>by
   cases hT:T.contains k
   ·exact Or.inr (hx hT)
   ·refine Or.inl ⟨k,by simpa using hT,?_⟩
    have:k<listed.size:=by omega
    simp [this]
  refine⟨fun h0=>(by rw [h0] at hready;cases hready),fun x hx=>?_⟩
  rcases (hm x).1 hx with hx' | hx' | hx'
  ·rw [hx'] at hx ⊢
   refine wpOp_mono (fun a' w' h=>?_) h.1
   exact⟨hS' _ _ hi h.1,zaB hs hQ r _ _ _ (by simpa using hsz) (zao hx hc) v1 hok1 (hS' _ _ hi h.1) h.2⟩
  ·rw [hx'] at hx ⊢
   refine wpOp_mono (fun a' w' h=>?_) h.2.1
   have:=zaB hs hQ r' _ _ _ (by simpa using hsz) (zao hx hc) v2 hok2 (hS' _ _ hj h.1) h.2
   rw [← e1] at this
   exact⟨hS' _ _ hj h.1,this⟩
  ·rw [hx'] at hx ⊢
   refine wpOp_mono (fun a' w' h=>?_) h.2.2
   have:=zaB hs hQ r'' _ _ _ (by simpa using hsz) (zao hx hc) v3 hok3 (hS' _ _ hk h.1) h.2
   rw [← e2] at this
   exact⟨hS' _ _ hk h.1,this⟩
theorem zdx {id:Nat} {a:Act} {w:World} (S:World→Prop) (T:List Nat) (ord:zE)(hm:P.follows .mixedOrders=true)(hlen:ord.len=l.length)(hev:ord.even=true)(hs:Region.noSelect l.toArray=true)(hok:zaW l T ord (Array.replicate l.length false)=true)
  (hQ:∀ (c:List PanicEntry) (a:Act) (d:Tmp) (v:Value) (w:World),Q (.panic c) (a.put (some d) v) w→Q (.panic c) a w) (hS:S w.drew) (h:zG P l T Q S ord a w.drew):(Code.region id l.toArray true).wp P Q a w:=by
 refine wp_region_any hm ?_
 have:=zcE _ _ _ _ (zaB hs hQ ord _ a w.drew (by simp) (clo_start l) hev hok (Or.inr hS) h)
 rw [hlen] at this
 simpa using this
theorem zh {a:Act} {w:World}(h:Q .normal a w):zG P l T Q S .nil a w:=h
theorem useq_pure {i:Nat} {rest:zE} {o:Oper} {v:Value} {a:Act} {w:World}(ho:l[i]?=some o)(hq:zbm o.op=true) (_hp:zdl o.op=true)(hw:Region.wanted o (yielded l.toArray a.tmps)=true)
  (hy:∀ W,(execOp a.eval o).run P W=.ok (.value v) W) (h:zG P l T Q S rest (a.put o.dst v) w):zG P l T Q S (.one i rest) a w:=by
 simp only [zG,ho,hq,if_true]
 exact⟨v,.inl ⟨hw,fun W _=>hy W⟩,h⟩
theorem useq_read {i:Nat} {rest:zE} {o:Oper} {v:Value} {a:Act} {w:World}(ho:l[i]?=some o)(hq:zbm o.op=true)(hp:zdl o.op=false)(hw:Region.wanted o (yielded l.toArray a.tmps)=true)
  (hy:∀ W,S W→(execOp a.eval o).run P W=.ok (.value v) W) (h:zG P l T Q S rest (a.put o.dst v) w):zG P l T Q S (.one i rest) a w:=by
 simp only [zG,ho,hq,hp,if_true]
 exact⟨v,.inl ⟨hw,hy⟩,h⟩
theorem useq_skip {i:Nat} {rest:zE} {o:Oper} {a:Act} {w:World}(ho:l[i]?=some o)(hw:Region.wanted o (yielded l.toArray a.tmps)=false)
  (hS:S w) (h:zG P l T Q S rest (a.put o.dst undef) w):zG P l T Q S (.one i rest) a w:=by
 simp only [zG,ho]
 exact yV01a4
theorem ze {i:Nat} {rest:zE} {o:Oper} {a:Act} {w:World}
  (h:∀ K:Act→World→Prop,Shut (∀ a w,S w→zG P l T Q S rest a w→K a w)→o.wp P a w K Q) (ho:l[i]?=some o:=by rfl) (hq:zbm o.op=false:=by rfl) (hw:Region.wanted o (yielded l.toArray a.tmps)=true:=by rfl):zG P l T Q S (.one i rest) a w:=by
 simp only [zG,ho,hq]
 unfold wpOp
 simp only [List.getElem?_toArray,ho,hw,if_true]
 exact .inl (h _ fun a w hS hW=>⟨fun _=>hS,hW⟩)
theorem zb {i:Nat} {rest:zE} {o:Oper} {a:Act} {w:World}
  (h:∀ K:Act→World→Prop,Shut (∀ a w,zG P l T Q S rest a w→K a w)→o.wp P a w K Q) (ho:l[i]?=some o:=by rfl) (hq:zbm o.op=false:=by rfl) (hT:T.contains i=true:=by rfl) (hw:Region.wanted o (yielded l.toArray a.tmps)=true:=by rfl):zG P l T Q S (.one i rest) a w:=by
 simp only [zG,ho,hq]
 unfold wpOp
 simp only [List.getElem?_toArray,ho,hw,if_true]
 exact .inl (h _ fun a w hW=>⟨fun hn=>absurd (hn.symm.trans hT) (by decide),hW⟩)
end
section
variable {P:Program} {l:List Oper} {Q:Exit→Act→World→Prop} {S:World→Prop} {T:List Nat}
theorem zB {i j:Nat} {r r':zE} {o o':Oper} {a:Act} {w:World}
  (h1:∀ K:Act→World→Prop,Shut (∀ a w,S w→zG P l T Q S r a w→K a w)→o.wp P a w K Q) (h2:∀ K:Act→World→Prop,Shut (∀ a w,S w→zG P l T Q S r' a w→K a w)→o'.wp P a w K Q) (ho:l[i]?=some o:=by rfl) (ho':l[j]?=some o':=by rfl) (hw:Region.wanted o (yielded l.toArray a.tmps)=true:=by rfl) (hw':Region.wanted o' (yielded l.toArray a.tmps)=true:=by rfl):zG P l T Q S (.two i r j r') a w:=by
 exact yV01a1
theorem zbG {i j k:Nat} {r r' r'':zE} {o o' o'':Oper} {a:Act} {w:World}
  (h1:∀ K:Act→World→Prop,Shut (∀ a w,S w→zG P l T Q S r a w→K a w)→o.wp P a w K Q) (h2:∀ K:Act→World→Prop,Shut (∀ a w,S w→zG P l T Q S r' a w→K a w)→o'.wp P a w K Q) (h3:∀ K:Act→World→Prop,Shut (∀ a w,S w→zG P l T Q S r'' a w→K a w)→o''.wp P a w K Q) (ho:l[i]?=some o:=by rfl) (ho':l[j]?=some o':=by rfl) (ho'':l[k]?=some o'':=by rfl) (hw:Region.wanted o (yielded l.toArray a.tmps)=true:=by rfl) (hw':Region.wanted o' (yielded l.toArray a.tmps)=true:=by rfl) (hw'':Region.wanted o'' (yielded l.toArray a.tmps)=true:=by rfl):zG P l T Q S (.three i r j r' k r'') a w:=by
 refine⟨?_,?_,?_⟩
 ·unfold wpOp
  simp only [List.getElem?_toArray,ho,hw,if_true]
  exact .inl (h1 _ fun a w hS hW=>⟨fun _=>hS,hW⟩)
 ·unfold wpOp
  simp only [List.getElem?_toArray,ho',hw',if_true]
  exact .inl (h2 _ fun a w hS hW=>⟨fun _=>hS,hW⟩)
 ·unfold wpOp
  simp only [List.getElem?_toArray,ho'',hw'',if_true]
  exact .inl (h3 _ fun a w hS hW=>⟨fun _=>hS,hW⟩)
end
theorem uQ {A B:Prop}(h:B) (k:Bx B→A:=by
 intro h0
 repeat (first|(refine useq_skip rfl rfl (by assumption) ?_;simp only [Act.put,List.setIfInBounds_toArray,List.set_cons_zero,List.set_cons_succ])|(refine useq_pure (v:=?_) rfl rfl rfl rfl (fun X=>?_) ?_;rotate_left;(focus (go_simp<;>with_reducible rfl));simp only [Act.put,List.setIfInBounds_toArray,List.set_cons_zero,List.set_cons_succ])|(refine useq_read (v:=?_) rfl rfl rfl rfl (fun X hX=>?_) ?_;rotate_left;(focus (go_simp<;>with_reducible rfl));simp only [Act.put,List.setIfInBounds_toArray,List.set_cons_zero,List.set_cons_succ]))
 exact h0.out):A:=k ⟨h⟩
theorem uR {P:Program} {l:List Oper} {Q:Exit→Act→World→Prop} {id:Nat} {a:Act} {w:World} (S:World→Prop) (T:List Nat) (ord:zE)(h:zG P l T Q S ord a w.drew)(hm:P.follows .mixedOrders=true:=by kernel_rfl)(hlen:ord.len=l.length:=by kernel_rfl)(hev:ord.even=true:=by kernel_rfl)(hs:Region.noSelect l.toArray=true:=by kernel_rfl)(hok:zaW l T ord (Array.replicate l.length false)=true:=by kernel_rfl)
  (hQ:∀ (c:List PanicEntry) (a:Act) (d:Tmp) (v:Value) (w:World),Q (.panic c) (a.put (some d) v) w→Q (.panic c) a w:=by exact fun _ _ _ _ _ h=>h) (hS:S w.drew:=by first|assumption|exact (Ext.refl _).drew|(refine Ext.drew ?_;assumption)):(Code.region id l.toArray true).wp P Q a w:=
 zdx S T ord hm hlen hev hs hok hQ hS h
theorem zak (W:World) (Z:Nat) (u0 u1 u2:Value):Frm (fun k=>k=Z) W (((W.setCell ⟨Z,0,none⟩ u0).setCell ⟨Z,1,none⟩ u1).setCell ⟨Z,2,none⟩ u2):=
 ((Frm.setCell W Z 0 u0).trans (Frm.setCell _ Z 1 u1)).trans (Frm.setCell _ Z 2 u2)
theorem zas {w:World} {Z:Nat} {cs:Array Value} {t:TypeId}(h:Blk w Z t cs)(hc:cs.size=3) (u0 u1 u2:Value):Blk (((w.setCell ⟨Z,0,none⟩ u0).setCell ⟨Z,1,none⟩ u1).setCell ⟨Z,2,none⟩ u2) Z t #[u0,u1,u2]:=by
 obtain⟨l⟩:=cs
 match l,hc with
 |[a,b,c],_=>simpa using ((h.set_ 0 u0).set_ 1 u1).set_ 2 u2
theorem zo {w:World} {base:Nat} {e t:TypeId} {size n G:Nat} {v:Value} {xs:List Value} {cs:Array Value}(h:w.ownsRow base e size v n xs)(hB:Blk w G t cs)(hne:e≠t) {b:Nat}(hv:v.ownBlock=some b):b≠G:=by
 rintro rfl
 rcases h.2 with ⟨rfl,_⟩|⟨g,cap,cur,rfl,_,hh,_⟩
 ·simp [Value.ownBlock] at hv
 ·have hg:g=b:=by simpa [Value.ownBlock] using hv
  subst hg
  unfold Blk at hB
  rw [hh] at hB
  injection hB with hB
  injection hB with _ ht
  exact absurd ht hne
structure Gra (w0 W:World) (G:Nat) (al:Int) (v:Value) (ls:List (List Int)) (vA:Value) (acc:List Bool):Prop where
 blk:Blk W G 30 #[.int .i64 al,v,vA]
 own:zcu W w0.heap.size v ls
 acc:W.ownsRow w0.heap.size 4 1 vA acc.length (zL acc)
 ext:Ext w0 W
 hG:w0.heap.size≤G
section
variable {w0 W W':World} {G:Nat} {al:Int} {v vA:Value} {ls:List (List Int)} {acc:List Bool}
theorem Gra.push {W1:World} {rows:List Value} {row:Value} {l:List Int} {g cap:Nat}(h:Gra w0 W G al v ls vA acc)(hrows:zq W w0.heap.size rows ls)(hv:W.ownsRow w0.heap.size 62 1 v ls.length rows)
  (hx:Ext W W1) (hrow:W1.ownsRow W.heap.size 3 1 row l.length (ints l))
  (zep:W'.ownsRow w0.heap.size 62 1 (.slice (some ⟨g,0,none⟩) (ls.length+1) cap) (ls.length+1) (rows++[row]))
  (hg:W1.grownBy W' v.ownBlock) (hat:v.ownBlock=some g∨g=W1.heap.size+1) :
  Hid (W'.cell? ⟨G,1,none⟩=some v)∧W'.frozen? ⟨G,1,none⟩=false∧Gra w0 (W'.setCell ⟨G,1,none⟩ (.slice (some ⟨g,0,none⟩) (ls.length+1) cap)) G al (.slice (some ⟨g,0,none⟩) (ls.length+1) cap) (ls++[l]) vA acc:=by
 have hB1:=h.blk.ext hx
 have hv1:=zm hv hx
 have hB:Blk W' G 30 #[.int .i64 al,v,vA]:=(hg.block G hB1.lt (fun e=>zo hv1 hB1 (by decide) e.symm rfl)).trans hB1
 have hgG:g≠G:=by
  rcases hat with h1|h1
  ·exact zo hv1 hB1 (by decide) h1
  ·have:=hB1.lt;omega
 have hx':Ext w0 W':=(h.ext.trans hx).grown hg (fun k hk=>(hv1.lt k hk).1)
 have hr1:=hrows.snoc hx (h.ext.size) hrow
 have hfr:Frm (fun k=>v.ownBlock=some k) W1 W':=Frm.of_grown hg
 have hr2:zq W' w0.heap.size (rows++[row]) (ls++[l]):=hr1.frm hfr (fun i r b hr hb hS=>by
  obtain⟨l',_,ho⟩:=hr1.row hr
  exact zZ ho hv1 (by decide) hb hS)
 have zeq:W'.ownsRow w0.heap.size 4 1 vA acc.length (zL acc):=zj (zm h.acc hx) hfr (fun b hb hS=>zZ (zm h.acc hx) hv1 (by decide) hb hS)
 have hset:=Frm.setCell W' G 1 (.slice (some ⟨g,0,none⟩) (ls.length+1) cap)
 refine⟨hB.cell 1,hB.frozen 1,⟨by simpa using hB.set_ 1 _,⟨rows++[row],?_,?_⟩,?_,hx'.setCell (p:=⟨G,1,none⟩) h.hG _,h.hG⟩⟩
 ·rw [List.length_append,List.length_singleton]
  exact zj zep hset (fun b hv hS=>by
   have:g=b:=by simpa [Value.ownBlock] using hv
   omega)
 ·refine hr2.frm hset (fun i r b hr hb hS=>?_)
  obtain⟨l',_,ho⟩:=hr2.row hr
  exact zo ho hB (by decide) hb hS
 ·exact zj zeq hset (fun b hb hS=>zo zeq hB (by decide) hb hS)
end
def Rd (w:World) (R M:Nat):Prop:=
 ∃ (A:Option Addr) (n c p:Nat),p≤M∧n≤2000∧Blk w R 80 #[.slice A n c,.int .i64 p]∧(0<n→∃ g o,A=some ⟨g,o,none⟩∧g<R∧∀ j,j<n→∃ b:Nat,b<256∧w.cell? ⟨g,o+j,none⟩=some (.int .u8 b))
def Dr (R:Nat) (w w':World):Prop:=Frm (fun k=>k=R) w w'
theorem Dr.refl (R:Nat) (w:World):Dr R w w:=Frm.refl _ _
theorem Dr.trans {R:Nat} {a b c:World}(h:Dr R a b) (k:Dr R b c):Dr R a c:=Frm.trans h k
theorem Dr.ext {R:Nat} {a b c:World}(h:Dr R a b) (k:Ext b c):Dr R a c:=Frm.ext h k
theorem Ext.dr {R:Nat} {a b:World}(h:Ext a b):Dr R a b:=h.toFrm
theorem Dr.drew {R:Nat} {a w:World}(h:Dr R a w):Dr R a w.drew:=⟨h.os,h.tape,h.output,h.size,h.block⟩
theorem Dr.drewN {R:Nat} {a w:World}(h:Dr R a w) (n:Nat):Dr R a (w.drewN n):=⟨h.os,h.tape,h.output,h.size,h.block⟩
theorem Dr.alloc {R:Nat} {a w:World}(h:Dr R a w) (o:Obj):Dr R a (w.alloc o):=h.ext ((Ext.refl _).alloc _)
theorem Dr.setNew {R:Nat} {a w:World}(h:Dr R a w) {p:Addr}(hp:a.heap.size≤p.block) (u:Value):Dr R a (w.setCell p u):=
 ⟨h.os,h.tape,h.output,by simpa [World.setCell] using h.size,fun k hk hn=>(Below.heap_setCell _ _ _ _ (by omega)).trans (h.block k hk hn)⟩
theorem Dr.grown {R:Nat} {a w w':World} {row:Option Nat}(h:Dr R a w)(hg:w.grownBy w' row)(hr:∀ k,row=some k→a.heap.size≤k):Dr R a w':=
 ⟨hg.os.trans h.os,hg.tape.trans h.tape,hg.output.trans h.output,Nat.le_trans h.size hg.size,
  fun k hk hn=>(hg.block k (Nat.lt_of_lt_of_le hk h.size) (fun e=>by have:=hr k e.symm;omega)).trans (h.block k hk hn)⟩
theorem Blk.dr {w w':World} {R g:Nat} {t:TypeId} {cs:Array Value}(h:Blk w g t cs)(hb:Dr R w w')(hg:g≠R):Blk w' g t cs:=h.frm hb hg
theorem Dr.cell_some {R:Nat} {w w':World}(h:Dr R w w') {p:Addr} {v:Value}(hv:w.cell? p=some v)(hp:p.block≠R):w'.cell? p=some v:=
 (World.cell?_of_block (w:=w) (h.block _ (World.block_lt_of_cell? w p hv) hp)).trans hv
theorem Rd.ext {w w':World} {R M:Nat}(h:Rd w R M)(hb:Ext w w'):Rd w' R M:=by
 obtain⟨A,n,c,p,hp,hn,hB,hx⟩:=h
 refine⟨A,n,c,p,hp,hn,hB.ext hb,fun h0=>?_⟩
 obtain⟨g,o,e,hg,hc⟩:=hx h0
 exact⟨g,o,e,hg,fun j hj=>by obtain⟨b,hb1,hb2⟩:=hc j hj;exact⟨b,hb1,hb.cell_some hb2⟩⟩
theorem Rd.more {w:World} {R M N:Nat}(h:Rd w R M)(hM:M≤N):Rd w R N:=by
 obtain⟨A,n,c,p,hp,r⟩:=h
 exact⟨A,n,c,p,Nat.le_trans hp hM,r⟩
theorem Rd.lt {w:World} {R M:Nat}(h:Rd w R M):R<w.heap.size:=by
 obtain⟨A,n,c,p,_,_,hB,_⟩:=h
 exact hB.lt
theorem Rd.frm {S:Nat→Prop} {w w':World} {R M:Nat}(h:Rd w R M)(hb:Frm S w w')(hS:∀ k,k≤R→¬ S k):Rd w' R M:=by
 obtain⟨A,n,c,p,hp,hn,hB,hx⟩:=h
 refine⟨A,n,c,p,hp,hn,hB.frm hb (hS R (Nat.le_refl _)),fun h0=>?_⟩
 obtain⟨g,o,e,hg,hc⟩:=hx h0
 exact⟨g,o,e,hg,fun j hj=>by
  obtain⟨b,hb1,hb2⟩:=hc j hj
  exact⟨b,hb1,(World.cell?_of_block (w:=w) (hb.block g (World.block_lt_of_cell? w _ hb2) (hS g (by omega)))).trans hb2⟩⟩
def RetPick (R M:Nat) (n:Int) (w:World) (e:Ending) (w':World):Prop:=∃ k:Nat,e=.returned (.int .i64 k)∧(1≤n→(k:Int)<n)∧(n<1→k=0)∧Rd w' R (M+1)∧Dr R w w'
theorem bits_xor_nat {a b:Nat}(ha:a<4611686018427387904)(hb:b<4611686018427387904):bits .xor .i64 (a:Int) (b:Int)=((a ^^^ b:Nat):Int):=by
 have hx:a ^^^ b<2 ^ 62:=Nat.xor_lt_two_pow (by simpa using ha) (by simpa using hb)
 show IntKind.i64.wrap ((BitVec.ofInt 64 (a:Int) ^^^ BitVec.ofInt 64 (b:Int)).toNat:Int)=_
 rw [BitVec.toNat_xor,zaI a (by omega),zaI b (by omega),IntKind.wrap_i64]
 omega
theorem zg {R M:Nat} {n:Int} {w:World}(h:Rd w R M)(hM:M≤1000000000) :
  Calls Tryd.prog 26 #[.pointer (some ⟨R,0,none⟩),.int .i64 n] w (RetPick R M n w):=by
 obtain⟨A,m,c,p,hp,hm,hB,hx⟩:=h
 have c0:=hB.cell 0
 have c1:=hB.cell 1
 have f1:=hB.frozen 1
 have hB1:=hB.set_ 1 (.int .i64 ((p:Int)+1))
 have hfr:=Frm.setCell w R 1 (.int .i64 ((p:Int)+1))
 have hpb:(p:Int)≤1000000000:=by omega
 have hRd:Hid (Rd (w.setCell ⟨R,1,none⟩ (.int .i64 ((p:Int)+1))) R (M+1)):=by
  refine za ⟨A,m,c,p+1,by omega,hm,by simpa using hB1,fun h0=>?_⟩
  obtain⟨g,o,e,hg,hc⟩:=hx h0
  exact⟨g,o,e,hg,fun j hj=>by
   obtain⟨b,hb1,hb2⟩:=hc j hj
   exact⟨b,hb1,(World.cell?_of_block (w:=w) (hfr.block g (World.block_lt_of_cell? w _ hb2) (by show ¬ g=R;omega))).trans hb2⟩⟩
 simp only [List.getElem?_toArray,List.getElem?_cons_zero,List.getElem?_cons_succ] at c0 c1
 by_cases hn:n<1
 ·go_enter Tryd.func26,Tryd.ntmps26
  go_wp2
  go_ret
  exact⟨0,rfl,fun h=>by omega,fun _=>rfl,hRd.out,hfr⟩
 ·by_cases h0:m=0
  ·subst h0
   go_enter Tryd.func26,Tryd.ntmps26
   go_wp2
   go_ret
   exact⟨0,rfl,fun h=>by omega,fun _=>rfl,hRd.out,hfr⟩
  ·obtain⟨k,rfl⟩:∃ k:Nat,n=k:=⟨n.toNat,by omega⟩
   have hk1:(1:Int)≤(k:Int):=by omega
   obtain⟨g,o,rfl,hg,hc⟩:=hx (by omega)
   have hgR:¬ g=R:=by omega
   have hm0:(0:Int)<(m:Int):=by omega
   have hm2:(m:Int)≤2000:=by omega
   have he0:((m:Int)==0)=false:=by simp;omega
   have Hc:=za hc
   clear hc hx
   by_cases hpm:p<m
   ·obtain⟨b,hb,hcb⟩:=Hc.out p hpm
    have hb0:(b:Int)<256:=by omega
    have hpm':(p:Int)<(m:Int):=by omega
    have hmod:=za (Int.natCast_emod b k)
    go_enter Tryd.func26,Tryd.ntmps26
    go_wp2
    go_ret
    exact⟨b % k,zaO hmod.out.symm,fun _=>by rw [hmod.out];exact Int.emod_lt_of_pos _ (by omega),fun h=>by omega,hRd.out,hfr⟩
   ·have hq1:p % m<m:=Nat.mod_lt _ (by omega)
    have hq2:(p*7+3) % m<m:=Nat.mod_lt _ (by omega)
    have hq3:p / m≤p:=Nat.div_le_self _ _
    obtain⟨b1,hb1,hc1⟩:=Hc.out _ hq1
    obtain⟨b2,hb2,hc2⟩:=Hc.out _ hq2
    have t1:(p:Int).tmod (m:Int)=((p % m:Nat):Int):=by rw [Int.tmod_eq_emod_of_nonneg (by omega)];exact (Int.natCast_emod p m).symm
    have t2:((p:Int)*7+3).tmod (m:Int)=(((p*7+3) % m:Nat):Int):=by rw [Int.tmod_eq_emod_of_nonneg (by omega)];rw [Int.natCast_emod];rfl
    have t3:(p:Int).tdiv (m:Int)=((p / m:Nat):Int):=by rw [Int.tdiv_eq_ediv_of_nonneg (by omega)];exact (Int.natCast_ediv p m).symm
    have hpm':(m:Int)≤(p:Int):=by omega
    have hg0:∀ j,(w.setCell ⟨R,1,none⟩ (.int .i64 ((p:Int)+1))).cell? ⟨g,j,none⟩=w.cell? ⟨g,j,none⟩:=fun j=>by
     refine World.cell?_of_block ?_
     exact Below.heap_setCell _ _ _ _ (fun h=>hgR h)
    have e1:=(hg0 _).trans hc1
    have e2:=(hg0 _).trans hc2
    have d0:(w.setCell ⟨R,1,none⟩ (.int .i64 ((p:Int)+1))).cell? ⟨R,0,none⟩=some (.slice (some ⟨g,o,none⟩) m c):=by simpa using hB1.cell 0
    have T1:=za t1
    have T2:=za t2
    have T3:=za t3
    clear hg0 hc1 hc2 t1 t2 t3 hB hB1
    generalize p % m=q1 at *
    generalize (p*7+3) % m=q2 at *
    generalize p / m=q3 at *
    obtain⟨x,hx⟩:∃ x:Nat,x=b1*131+b2*1117+p*29+q3*53:=⟨_,rfl⟩
    have hxb:x<100000000000:=by omega
    obtain⟨y,hy⟩:∃ y:Nat,Hid (x ^^^ (x / 64)=y):=⟨_,rfl⟩
    have hxor:=za (show bits .xor .i64 (x:Int) ((x:Int) / 64)=(y:Int) by rw [← hy.out];exact bits_xor_nat (a:=x) (b:=x / 64) (by omega) (by omega))
    have hyb:(y:Int)<1099511627776:=by
     have:x ^^^ (x / 64)<2 ^ 40:=Nat.xor_lt_two_pow (by omega) (by omega)
     rw [hy.out] at this
     omega
    have hmod:=za (Int.natCast_emod y k)
    have hX:(b1:Int)*131+(b2:Int)*1117+(p:Int)*29+(q3:Int)*53=(x:Int):=by omega
    have HX:=za hX
    clear hx hX
    go_enter Tryd.func26,Tryd.ntmps26
    go_wp2
    generalize w.setCell ⟨R,1,none⟩ (.int .i64 ((p:Int)+1))=w1 at *
    have t1:=T1.out
    have t2:=T2.out
    have t3:=T3.out
    have a1:IntKind.i64.wrap ((p:Int)*7)=(p:Int)*7:=IntWalk.i64_in _ (by omega)
    have a2:IntKind.i64.wrap ((p:Int)*7+3)=(p:Int)*7+3:=IntWalk.i64_in _ (by omega)
    have a3:IntKind.i64.wrap ((b1:Int)*131)=(b1:Int)*131:=IntWalk.i64_in _ (by omega)
    have a4:IntKind.i64.wrap ((b2:Int)*1117)=(b2:Int)*1117:=IntWalk.i64_in _ (by omega)
    have a5:IntKind.i64.wrap ((b1:Int)*131+(b2:Int)*1117)=(b1:Int)*131+(b2:Int)*1117:=IntWalk.i64_in _ (by omega)
    have a6:IntKind.i64.wrap ((p:Int)*29)=(p:Int)*29:=IntWalk.i64_in _ (by omega)
    have a7:IntKind.i64.wrap ((b1:Int)*131+(b2:Int)*1117+(p:Int)*29)=(b1:Int)*131+(b2:Int)*1117+(p:Int)*29:=IntWalk.i64_in _ (by omega)
    have a8:IntKind.i64.wrap ((q3:Int)*53)=(q3:Int)*53:=IntWalk.i64_in _ (by omega)
    have a9:IntKind.i64.wrap ((b1:Int)*131+(b2:Int)*1117+(p:Int)*29+(q3:Int)*53)=(x:Int):=by rw [HX.out];exact IntWalk.i64_in _ (by omega)
    have i1:(q1:Int)<(m:Int):=by omega
    have i2:(q2:Int)<(m:Int):=by omega
    have i3:(0:Int)≤(q1:Int):=by omega
    have i4:(0:Int)≤(q2:Int):=by omega
    go_quiet (fail)
    clear a1 a2 a3 a4 a5 a6 a7 a8 a9 t1 t2 t3
    have hxo:=hxor.out
    have hxb':(x:Int)<100000000000:=by omega
    go_wp2
    go_ret
    exact⟨y % k,zaO hmod.out.symm,fun _=>by rw [hmod.out];exact Int.emod_lt_of_pos _ (by omega),fun h=>by omega,hRd.out,Dr.drewN hfr _⟩
def strs (l:List ByteArray):List Value:=l.map Value.string
theorem Reads.dr {w w':World} {R lo hi size n:Nat} {A:Option Addr} {xs:List Value}(h:Reads w lo hi size A n xs)(hb:Dr R w w')(hR:R<lo):Reads w' lo hi size A n xs:=
 h.frm hb (fun k h1 _ h2=>by omega)
def RetNum (R M:Nat) (l:List Int) (w:World) (e:Ending) (w':World):Prop:=∃ x,x∈l∧e=.returned (.int .i64 x)∧Rd w' R (M+1)∧Dr R w w'
def RetOf (R M:Nat) (l:List ByteArray) (w:World) (e:Ending) (w':World):Prop:=∃ x,x∈l∧e=.returned (.string x)∧Rd w' R (M+1)∧Dr R w w'
theorem l19Rd_num {R M lo hi n c:Nat} {A:Option Addr} {l:List Int} {w:World}(h:Rd w R M)(hM:M≤1000000000)(hL:Reads w lo hi 1 A n (ints l))(hlo:R<lo)(hn:0<n) :
  Calls Tryd.prog 90 #[.pointer (some ⟨R,0,none⟩),.slice A n c] w (RetNum R M l w):=by
 have hlen:=hL.len
 have hn1:(1:Int)≤(n:Int):=by omega
 go_enter Tryd.func90,Tryd.ntmps90
 go_wp2_with fail
 refine (zg h hM).mono ?_
 rintro e w1 ⟨k,rfl,hk1,_,hr,hd⟩
 have hkn:=hk1 hn1
 have hkn':k<n:=by omega
 obtain⟨ad,x,rfl,_,_,hx,hc⟩:=(hL.dr hd hlo).int hkn'
 clear hk1
 go_wp2_with fail
 go_ret
 exact⟨x,List.mem_of_getElem? hx.out,rfl,hr,hd⟩
theorem l19Rd_of {R M lo hi n c:Nat} {A:Option Addr} {l:List ByteArray} {w:World}(h:Rd w R M)(hM:M≤1000000000)(hL:Reads w lo hi 1 A n (strs l))(hlo:R<lo)(hn:0<n) :
  Calls Tryd.prog 95 #[.pointer (some ⟨R,0,none⟩),.slice A n c] w (RetOf R M l w):=by
 have hlen:=hL.len
 have hn1:(1:Int)≤(n:Int):=by omega
 go_enter Tryd.func95,Tryd.ntmps95
 go_wp2_with fail
 refine (zg h hM).mono ?_
 rintro e w1 ⟨k,rfl,hk1,_,hr,hd⟩
 have hkn:=hk1 hn1
 have hkn':k<n:=by omega
 obtain⟨ad,u,rfl,_,_,hu,hc⟩:=(hL.dr hd hlo).one hkn'
 obtain⟨x,hx,rfl⟩:∃ x,l[k]?=some x∧u=.string x:=by
  have:=hu.out
  simp only [strs,List.getElem?_map,Option.map_eq_some_iff] at this
  obtain⟨x,h1,h2⟩:=this
  exact⟨x,h1,h2.symm⟩
 have Hx:=za hx
 clear hk1 hx
 go_wp2_with fail
 go_ret
 exact⟨x,List.mem_of_getElem? Hx.out,rfl,hr,hd⟩
def Bytes (w:World) (A:Option Addr) (n:Nat):Prop:=0<n→∃ g o,A=some ⟨g,o,none⟩∧g<w.heap.size∧∀ j,j<n→∃ b:Nat,b<256∧w.cell? ⟨g,o+j,none⟩=some (.int .u8 b)
theorem Bytes.ext {w w':World} {A:Option Addr} {n:Nat}(h:Bytes w A n)(hb:Ext w w'):Bytes w' A n:=fun h0=>by
 obtain⟨g,o,e,hg,hc⟩:=h h0
 exact⟨g,o,e,Nat.lt_of_lt_of_le hg hb.size,fun j hj=>by obtain⟨b,h1,h2⟩:=hc j hj;exact⟨b,h1,hb.cell_some h2⟩⟩
def RetOpen (w:World) (e:Ending) (w':World):Prop:=∃ R,e=.returned (.pointer (some ⟨R,0,none⟩))∧w.heap.size≤R∧Rd w' R 0∧Ext w w'
theorem zcJ {A:Option Addr} {n c:Nat} {w:World}(h:Bytes w A n)(hn:n≤9223372036854775807)(hc:n≤c)(hc2:c≤9223372036854775807) :
  Calls Tryd.prog 24 #[.slice A n c] w (RetOpen w):=by
 by_cases hb:2000<n
 ·obtain⟨g,o,rfl,hg,hcell⟩:=h (by omega)
  have Hcell:=za hcell
  clear hcell h
  have h1:(2000:Int)<(n:Int):=by omega
  have h2:(2000:Int)≤(c:Int):=by omega
  go_enter Tryd.func24,Tryd.ntmps24
  go_wp2
  go_ret
  refine⟨w.heap.size,rfl,Nat.le_refl _,⟨some ⟨g,o,none⟩,2000,c,0,by omega,by omega,Blk.new _ _ _,fun _=>⟨g,o,rfl,hg,fun j hj=>?_⟩⟩,(Ext.refl _).alloc _⟩
  obtain⟨b,h1,h2⟩:=Hcell.out j (by omega)
  exact⟨b,h1,((Ext.refl w).alloc _).cell_some h2⟩
 ·have Hh:=za h
  clear h
  have h1:(n:Int)≤2000:=by omega
  go_enter Tryd.func24,Tryd.ntmps24
  go_wp2
  go_ret
  refine⟨w.heap.size,rfl,Nat.le_refl _,⟨A,n,c,0,by omega,by omega,Blk.new _ _ _,fun h0=>?_⟩,(Ext.refl _).alloc _⟩
  obtain⟨g,o,e,hg,hc⟩:=Hh.out h0
  exact⟨g,o,e,hg,fun j hj=>by obtain⟨b,h1,h2⟩:=hc j hj;exact⟨b,h1,((Ext.refl w).alloc _).cell_some h2⟩⟩
theorem zai (a:Nat)(hs:Sm a) (w:World) :
  Calls Tryd.prog 76 #[.int .i64 a] w (zdR w (letters a 6)):=by
 go_enter Tryd.func76,Tryd.ntmps76
 go_wp2
 go_loopw [3,4] (fun v i wr=>∃ k:Nat,k≤6∧i=.int .i64 k∧wr.ownsRow w.heap.size 3 1 v (letters a k).length (zF (letters a k))∧Ext w wr)
  (fun _ i _=>6 - (intOf i).toNat)
 case atStart=>exact⟨0,Nat.zero_le _,rfl,World.ownsRow_lit w #[] 0 (Nat.le_refl _) (by unfold maxLen;omega) rfl,(Ext.refl _).alloc _⟩
 case round =>
  obtain⟨k,hk,rfl,zep,zer⟩:=hrel
  have hl:=zn a k
  by_cases hlt:k<6
  ·cases hb:a.testBit k
   all_goals
    have Hb:=za hb
    have hls:=zaA a k
    rw [hb] at hls
    have Hls:=za hls
    clear hls hb
    go_wp2_with (first
     |(go_at_call 33;refine (zA a k hs _ (by omega)).mono ?_;rw [Hb.out];rintro e w' ⟨rfl,rfl⟩)
     |(at_builtin;refine zI w wr rfl _ _ _ rfl 3 _ 1 8 Tryd.underlying62 zS rfl (by decide) u3 _ _ _ _ rfl rfl zer zep rfl (zaC _) (by unfold maxLen;omega) (by omega) ?_;intro v' w1 hext1 zet hg1 hat1))
    exact yV01a3
  ·obtain rfl:k=6:=by omega
   obtain⟨A,c,rfl⟩:=zl zep
   go_wp2
   go_ret
   exact⟨_,_,rfl,zep,zer⟩
end Go.Proofs.YtfcjhpodichpjaaDoor
