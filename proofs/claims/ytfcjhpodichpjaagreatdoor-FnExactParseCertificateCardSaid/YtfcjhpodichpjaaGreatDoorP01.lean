/- Plain lemmas -/
import Derived.WalkKit
import Derived.WalkSpells
import Derived.WalkLawsBesides
import Derived.BigQuiet
import Derived.Deep.QuietTactic
import Derived.Deep.RegionWith
import Derived.Deep.RegionHeld3
import Derived.Deep.AppendLies
import Derived.Deep.Draws
import Derived.Laws.OwnMore
import Derived.Laws.BitsAllLaws
import Derived.Laws.BitsLemmas
import Derived.Maps.AppendAt
import Derived.Test.YtfcjhpodichpjaaGreatDoorRows
import Derived.OrdersHeld
import Derived.ProofKit
import Derived.Deep.Slices
import Derived.Deep.Fields
import Derived.ChangeSame
import Derived.ChangeArms
import Derived.Lib.SmallJoins
import Derived.OpenShut
import Derived.ShutString
import Derived.ChangeOld
import Derived.Shelf.Strings.Split
import Derived.Shelf.Strconv.AtoiAll
import Derived.Lib.ItoaNum
import Derived.Lib.TrailingZeros
import Derived.Shelf.Spec.TrailingZeros
import Derived.Lib.Split
import Derived.Lib.IndexBytes
import Derived.IntWalk
import Derived.Laws.BytesArg
set_option maxHeartbeats 4000000
set_option maxRecDepth 100000
namespace Go.Proofs.YtfcjhpodichpjaaGreatDoor
open Go Go.RowKit
theorem za {p:Prop}(h:p):Hid p:=h
structure Bx (p:Prop):Prop where
 out:p
theorem pT {A B:Prop}(h:B) (k:Bx B→A:=by
 intro h0
 try simp only [Act.put,List.setIfInBounds_toArray,List.set_cons_zero,List.set_cons_succ]
 exact h0.out):A:=k ⟨h⟩
theorem addr_block (a:Addr) (n:Nat):(a.add n).block=a.block:=by unfold Addr.add;split<;>rfl
theorem zK (g o n:Nat):(⟨g,o,none⟩:Addr).add n=⟨g,o+n,none⟩:=by unfold Addr.add;split<;>simp_all
structure Frm (S:Nat→Prop) (w w':World):Prop where
 os:w'.os=w.os
 tape:w'.tape=w.tape
 output:w'.output=w.output
 size:w.heap.size≤w'.heap.size
 block:∀ k,k<w.heap.size→¬ S k→w'.heap[k]?=w.heap[k]?
def Ext (w w':World):Prop:=Frm (fun _=>False) w w'
theorem Ext.refl (w:World):Ext w w:=⟨rfl,rfl,rfl,Nat.le_refl _,fun _ _ _=>rfl⟩
theorem Ext.trans {a b c:World}(h:Ext a b) (k:Ext b c):Ext a c:=
 ⟨k.os.trans h.os,k.tape.trans h.tape,k.output.trans h.output,Nat.le_trans h.size k.size,fun i hi hn=>(k.block i (Nat.lt_of_lt_of_le hi h.size) hn).trans (h.block i hi hn)⟩
theorem Ext.drew {a w:World}(h:Ext a w):Ext a w.drew:=⟨h.os,h.tape,h.output,h.size,h.block⟩
theorem Ext.drewN {a w:World}(h:Ext a w) (n:Nat):Ext a (w.drewN n):=⟨h.os,h.tape,h.output,h.size,h.block⟩
theorem Ext.alloc {a w:World}(h:Ext a w) (o:Obj):Ext a (w.alloc o):=
 h.trans ⟨rfl,rfl,rfl,by simp,fun k hk _=>Below.heap_alloc _ _ _ hk⟩
theorem Ext.setCell {a w:World}(h:Ext a w) {p:Addr}(hp:a.heap.size≤p.block) (u:Value):Ext a (w.setCell p u):=
 ⟨h.os,h.tape,h.output,by simpa [World.setCell] using h.size,fun k hk hn=>(Below.heap_setCell _ _ _ _ (by omega)).trans (h.block k hk hn)⟩
theorem Ext.grown {a w w':World} {row:Option Nat}(h:Ext a w)(hg:w.grownBy w' row)(hr:∀ k,row=some k→a.heap.size≤k):Ext a w':=
 ⟨hg.os.trans h.os,hg.tape.trans h.tape,hg.output.trans h.output,Nat.le_trans h.size hg.size,
  fun k hk hn=>(hg.block k (Nat.lt_of_lt_of_le hk h.size) (fun e=>by have:=hr k e.symm;omega)).trans (h.block k hk hn)⟩
theorem Ext.of_below {w w':World}(h:Below w.heap.size w w'):Ext w w':=⟨h.os,h.tape,h.output,h.size,fun k hk _=>h.block k hk⟩
theorem Ext.heap {w w':World}(h:Ext w w') {k:Nat}(hk:k<w.heap.size):w'.heap[k]?=w.heap[k]?:=h.block k hk id
theorem Ext.cell {w w':World}(h:Ext w w') {p:Addr}(hp:p.block<w.heap.size):w'.cell? p=w.cell? p:=World.cell?_of_block (w:=w) (h.heap hp)
theorem Ext.cell_some {w w':World}(h:Ext w w') {p:Addr} {v:Value}(hv:w.cell? p=some v):w'.cell? p=some v:=
 (h.cell (World.block_lt_of_cell? w p hv)).trans hv
def Blk (w:World) (g:Nat) (t:TypeId) (cs:Array Value):Prop:=w.heap[g]?=some (.cells cs t (0,0))
section
variable {w w':World} {g:Nat} {t:TypeId} {cs:Array Value}
theorem Blk.lt (h:Blk w g t cs):g<w.heap.size:=by
 rcases Nat.lt_or_ge g w.heap.size with hlt|hge
 ·exact hlt
 ·unfold Blk at h;rw [Array.getElem?_eq_none hge] at h;cases h
theorem Blk.cell (h:Blk w g t cs) (i:Nat):w.cell? ⟨g,i,none⟩=cs[i]?:=cell_of_row w g i cs t (0,0) h
theorem Blk.frozen (h:Blk w g t cs) (i:Nat):w.frozen? ⟨g,i,none⟩=false:=by
 unfold Blk at h
 simp [World.frozen?,h]
theorem Blk.new (w:World) (t:TypeId) (cs:Array Value):Blk (w.alloc (.cells cs t)) w.heap.size t cs:=heap_alloc_new w _
theorem Blk.ext (h:Blk w g t cs)(hb:Ext w w'):Blk w' g t cs:=(hb.heap h.lt).trans h
theorem Blk.cells (h:Blk w g t cs):∀ W,Ext w W→∀ i,W.cell? ⟨g,i,none⟩=cs[i]?:=fun _ hW=>(h.ext hW).cell
theorem Blk.frm {S:Nat→Prop}(h:Blk w g t cs)(hb:Frm S w w')(hg:¬ S g):Blk w' g t cs:=(hb.block g h.lt hg).trans h
theorem Blk.set_ (h:Blk w g t cs) (i:Nat) (u:Value):Blk (w.setCell ⟨g,i,none⟩ u) g t (cs.setIfInBounds i u):=by
 unfold Blk at h ⊢
 simp [World.setCell,Array.getElem?_modify,h]
end
theorem zw {w w':World} {cs:Array Value} {t:TypeId}(h:Ext (w.alloc (.cells cs t)) w'):Blk w' w.heap.size t cs:=(Blk.new w t cs).ext h
theorem zZ {w w':World} {cs ds:Array Value} {t u:TypeId}(h:Ext ((w.alloc (.cells cs t)).alloc (.cells ds u)) w'):Blk w' w.heap.size t cs∧Blk w' (w.heap.size+1) u ds:=by
 refine⟨zw (((Ext.refl _).alloc _).trans h),?_⟩
 have:=zw h
 simpa using this
theorem ext_blk3 {w w':World} {cs ds es:Array Value} {t u v:TypeId}(h:Ext (((w.alloc (.cells cs t)).alloc (.cells ds u)).alloc (.cells es v)) w'):Blk w' w.heap.size t cs∧Blk w' (w.heap.size+1) u ds∧Blk w' (w.heap.size+1+1) v es:=by
 have h2:=zZ (((Ext.refl _).alloc _).trans h)
 refine⟨h2.1,h2.2,?_⟩
 have:=zw h
 simpa using this
theorem Blk.far {w:World} {g:Nat} {t:TypeId} {cs:Array Value}(h:Blk w g t cs) {p:Addr}(hp:g≠p.block) (u:Value):Blk (w.setCell p u) g t cs:=(Below.heap_setCell w p u g hp).trans h
theorem zaU {w w':World} {cs:Array Value} {t:TypeId}(h:Ext (w.alloc (.cells cs t)) w'):∀ j,w'.cell? ⟨w.heap.size,j,none⟩=cs[j]?:=(zw h).cell
def Reads (w:World) (lo hi size:Nat) (A:Option Addr) (n:Nat) (xs:List Value):Prop:=
 xs.length=n*size∧n≤9223372036854775807∧(0<n→∃ ad,A=some ad∧lo≤ad.block∧ad.block<hi∧∀ j u,xs[j]?=some u→w.cell? (ad.add j)=some u)
section
variable {w w':World} {lo hi size n:Nat} {A:Option Addr} {xs:List Value}
theorem Reads.nil:Reads w lo hi size A 0 []:=⟨by simp,by omega,fun h=>absurd h (by omega)⟩
theorem Reads.len (h:Reads w lo hi size A n xs):n≤9223372036854775807:=h.2.1
theorem Reads.length (h:Reads w lo hi size A n xs):xs.length=n*size:=h.1
theorem Reads.at_ {k:Nat}(h:Reads w lo hi size A n xs)(hk:k<n):∃ ad,A=some ad∧lo≤ad.block∧ad.block<hi∧∀ j u,xs[j]?=some u→w.cell? (ad.add j)=some u:=h.2.2 (by omega)
theorem Reads.one {k:Nat}(h:Reads w lo hi 1 A n xs)(hk:k<n):∃ ad u,A=some ad∧lo≤ad.block∧ad.block<hi∧Hid (xs[k]?=some u)∧w.cell? (ad.add k)=some u:=by
 obtain⟨ad,e,hl,hb,hc⟩:=h.2.2 (by omega)
 have hx:k<xs.length:=by have:=h.1;omega
 exact⟨ad,xs[k],e,hl,hb,List.getElem?_eq_getElem hx,hc k _ (List.getElem?_eq_getElem hx)⟩
theorem Reads.ext (h:Reads w lo hi size A n xs)(hb:Ext w w'):Reads w' lo hi size A n xs:=
 ⟨h.1,h.2.1,fun hn=>by
  obtain⟨ad,e,hl,hi,hc⟩:=h.2.2 hn
  exact⟨ad,e,hl,hi,fun j u hu=>hb.cell_some (hc j u hu)⟩⟩
theorem Reads.frm {S:Nat→Prop}(h:Reads w lo hi size A n xs)(hb:Frm S w w')(hS:∀ k,lo≤k→k<hi→¬ S k):Reads w' lo hi size A n xs:=
 ⟨h.1,h.2.1,fun hn=>by
  obtain⟨ad,e,hl,hi,hc⟩:=h.2.2 hn
  refine⟨ad,e,hl,hi,fun j u hu=>?_⟩
  have hcell:=hc j u hu
  have hlt:=World.block_lt_of_cell? w _ hcell
  exact (World.cell?_of_block (w:=w) (hb.block _ hlt (by rw [addr_block];exact hS _ hl hi))).trans hcell⟩
theorem Reads.of_own {base:Nat} {e:TypeId} {c:Nat}(h:w.ownsRow base e size (.slice A n c) n xs):Reads w base w.heap.size size A n xs:=by
 rcases h.2 with ⟨h',h0⟩|⟨g,cap,cur,hv,hb,hg,hnc,hcm,_,htake⟩
 ·subst h0
  have hx:xs=[]:=List.eq_nil_of_length_eq_zero (by simpa using h.1)
  subst hx
  exact Reads.nil
 ·have hA:A=some ⟨g,0,none⟩:=by injection hv
  subst hA
  exact⟨h.1,by unfold maxLen at hcm;omega,fun _=>⟨_,rfl,hb,(Array.getElem?_eq_some_iff.1 hg).1,h.cells (g:=g) rfl⟩⟩
end
theorem zx {P:Program} (wb w:World) {ops:Array Oper} {rest:List Oper} {o:Oper} {a:Act} {Q:Exit→Act→World→Prop}(hgd:o.guard=none) (s x:Operand) (t:TypeId)
  (ho:o.op=.call { callee:=.builtin .append,args:=#[s,x],argTypes:=#[t,t] })
  (e:TypeId) (z:Value) (size bytes:Nat) (ht:P.underlying t=some (.slice e)) (hi:(P.info? e).map (fun i=>(i.zero,i.size,i.bytes))=some (some z,size,bytes)) (hzs:z.cells.size=size) (hsz:0<size)
  (v:Value) (n:Nat) (xs:List Value) (us:Array Value) (e':TypeId) (hs:a.eval s=v) (hx:a.eval x=.slice (some ⟨w.heap.size,0,none⟩) 1 1)
  (zcq:Ext wb w) (zco:w.ownsRow wb.heap.size e size v n xs) (hus:us.size=size) (h1:∀ u∈us.toList,u.oneCell'=true)
  (h63:n+1≤maxLen) (hbytes:(n+1)*bytes≤140737488355328)
  (h:∀ v' w',Ext wb w'→w'.ownsRow wb.heap.size e size v' (n+1) (xs++us.toList)→w.grownBy w' v.ownBlock→(v'.ownBlock=v.ownBlock∨v'.ownBlock=some (w.heap.size+1))→wpList P ops Q rest (a.put o.dst v') w') :
  wpList P ops Q (o :: rest) a (w.alloc (.cells us e')):=by
 obtain⟨i,hi0,hz0,hz1,hz2⟩:=info_parts hi
 refine wpList_append_own_at (w.alloc (.cells us e')) hgd s x t ho wb.heap.size e i z size bytes ht hi0 hz0 hz1 hz2 hzs hsz v n xs hs (zco.alloc _) ⟨w.heap.size,0,none⟩ 1 1 us.toList hx (by simpa using hus) ?_ h1 h63 hbytes (by have:=zcq.size;simp;omega) ?_
 ·intro j u hu
  rw [zK,Nat.zero_add,(Blk.new w e' us).cell]
  simpa using hu
 ·intro v' w' hown' hg _ hat
  have hg':w.grownBy w' v.ownBlock:=⟨hg.os,hg.tape,hg.output,Nat.le_trans (by simp) hg.size,fun k hk hne=>(hg.block k (by simp;omega) hne).trans (Below.heap_alloc w _ k hk)⟩
  exact h v' w' (zcq.grown hg' (fun k hk=>(zco.lt k hk).1)) hown' hg' (by simpa using hat)
theorem wpList_make {P:Program} (wb w:World) {ops:Array Oper} {rest:List Oper} {o:Oper} {a:Act} {Q:Exit→Act→World→Prop}(hgd:o.guard=none) (l c:Operand) (t:TypeId)(ho:o.op=.makeSlice t l c)
  (e:TypeId) (z:Value) (size bytes:Nat) (ht:P.underlying t=some (.slice e)) (hi:(P.info? e).map (fun i=>(i.zero,i.size,i.bytes))=some (some z,size,bytes))
  (kl kc:IntKind) (n:Nat) (hl:a.eval l=.int kl (n:Int)) (hc:a.eval c=.int kc (n:Int)) (zcq:Ext wb w) (hbytes:n*bytes≤140737488355328) (h63:n≤maxLen)
  (h:∀ w',Ext wb w'→w'.ownsRow wb.heap.size e size (.slice (some ⟨w.heap.size,0,none⟩) n n) n (madeCells z.cells (n*size)).toList→Ext w w'→w.heap.size<w'.heap.size→wpList P ops Q rest (a.put o.dst (.slice (some ⟨w.heap.size,0,none⟩) n n)) w') :
  wpList P ops Q (o :: rest) a w:=by
 obtain⟨i,hi0,hz0,hz1,hz2⟩:=info_parts hi
 refine wpList_make_full w hgd l c t ho wb.heap.size e i z size ht hi0 hz0 hz1 kl kc n n n hl hc rfl rfl (by rw [hz2,Nat.mul_comm];omega) h63 zcq.size ?_
 intro w' zco hg
 refine h w' (zcq.grown hg (by simp)) zco ((Ext.refl _).grown hg (by simp)) ?_
 rcases zco.2 with ⟨h',_⟩|⟨g,cap,cur,h',_,hh,_⟩
 ·simp at h'
 ·have:w.heap.size=g:=by injection h' with h1;injection h1 with h1;injection h1
  subst this
  exact (Array.getElem?_eq_some_iff.1 hh).1
theorem zr {w:World} {base:Nat} {e:TypeId} {size:Nat} {v:Value} {n:Nat} {xs:List Value}(h:w.ownsRow base e size v n xs):∃ A c,v=.slice A n c:=by
 rcases h.2 with ⟨rfl,h0⟩|⟨g,cap,cur,rfl,_⟩
 ·exact⟨none,0,by rw [h0]⟩
 ·exact⟨_,_,rfl⟩
theorem cells_int (n:Int):∀ u∈(#[Value.int .i64 n]:Array Value).toList,u.oneCell'=true:=by simp [Value.oneCell']
theorem cells_u8 (n:Int):∀ u∈(#[Value.int .u8 n]:Array Value).toList,u.oneCell'=true:=by simp [Value.oneCell']
theorem zbm (A:Option Addr) (n c:Nat):∀ u∈(#[Value.slice A n c]:Array Value).toList,u.oneCell'=true:=by simp [Value.oneCell']
def ints (l:List Int):List Value:=l.map (Value.int .i64)
theorem zaw (l:List Int):(ints l).length=l.length:=by simp [ints]
def zD (l:List Bool):List Value:=l.map Value.bool
theorem zag (l:List Bool):(zD l).length=l.length:=by simp [zD]
theorem ints_get {l:List Int} {k:Nat} {u:Value}(h:(ints l)[k]?=some u):∃ n,l[k]?=some n∧u=.int .i64 n:=by
 simp only [ints,List.getElem?_map,Option.map_eq_some_iff] at h
 obtain⟨n,hn,rfl⟩:=h
 exact⟨n,hn,rfl⟩
theorem bools_get {l:List Bool} {k:Nat} {u:Value}(h:(zD l)[k]?=some u):∃ n,l[k]?=some n∧u=.bool n:=by
 simp only [zD,List.getElem?_map,Option.map_eq_some_iff] at h
 obtain⟨n,hn,rfl⟩:=h
 exact⟨n,hn,rfl⟩
theorem Reads.int {w:World} {lo hi n k:Nat} {A:Option Addr} {l:List Int}(h:Reads w lo hi 1 A n (ints l))(hk:k<n):∃ ad x,A=some ad∧lo≤ad.block∧ad.block<hi∧Hid (l[k]?=some x)∧w.cell? (ad.add k)=some (.int .i64 x):=by
 obtain⟨ad,u,e,hl,hb,hx,hc⟩:=h.one hk
 obtain⟨x,hx',rfl⟩:=ints_get hx.out
 exact⟨ad,x,e,hl,hb,hx',hc⟩
theorem Reads.bool {w:World} {lo hi n k:Nat} {A:Option Addr} {l:List Bool}(h:Reads w lo hi 1 A n (zD l))(hk:k<n):∃ ad x,A=some ad∧lo≤ad.block∧ad.block<hi∧Hid (l[k]?=some x)∧w.cell? (ad.add k)=some (.bool x):=by
 obtain⟨ad,u,e,hl,hb,hx,hc⟩:=h.one hk
 obtain⟨x,hx',rfl⟩:=bools_get hx.out
 exact⟨ad,x,e,hl,hb,hx',hc⟩
def zbk (w:World) (lo hi:Nat) (rows:List Value) (ls:List (List Int)):Prop:=
 rows.length=ls.length∧∀ (i:Nat) (row:Value) (l:List Int),rows[i]?=some row→ls[i]?=some l→∃ A c,row=.slice A l.length c∧Reads w lo hi 1 A l.length (ints l)
def zu (w:World) (lo hi:Nat) (A:Option Addr) (n:Nat) (ls:List (List Int)):Prop:=
 n=ls.length∧∃ rows,Reads w lo hi 1 A n rows∧zbk w lo hi rows ls
section
variable {w w':World} {lo hi n k:Nat} {A:Option Addr} {ls:List (List Int)} {rows:List Value}
theorem zbk.ext (h:zbk w lo hi rows ls)(hb:Ext w w'):zbk w' lo hi rows ls:=
 ⟨h.1,fun i row l hr hl=>by
  obtain⟨A,c,e,hx⟩:=h.2 i row l hr hl
  exact⟨A,c,e,hx.ext hb⟩⟩
theorem zu.ext (h:zu w lo hi A n ls)(hb:Ext w w'):zu w' lo hi A n ls:=by
 obtain⟨e,rows,hr,hx⟩:=h
 exact⟨e,rows,hr.ext hb,hx.ext hb⟩
theorem zbk.frm {S:Nat→Prop}(h:zbk w lo hi rows ls)(hb:Frm S w w')(hS:∀ k,lo≤k→k<hi→¬ S k):zbk w' lo hi rows ls:=
 ⟨h.1,fun i row l hr hl=>by
  obtain⟨A,c,e,hx⟩:=h.2 i row l hr hl
  exact⟨A,c,e,hx.frm hb hS⟩⟩
theorem zu.frm {S:Nat→Prop}(h:zu w lo hi A n ls)(hb:Frm S w w')(hS:∀ k,lo≤k→k<hi→¬ S k):zu w' lo hi A n ls:=by
 obtain⟨e,rows,hr,hx⟩:=h
 exact⟨e,rows,hr.frm hb hS,hx.frm hb hS⟩
theorem zu.len (h:zu w lo hi A n ls):n≤9223372036854775807:=by
 obtain⟨_,rows,hr,_⟩:=h
 exact hr.len
theorem zu.row (h:zu w lo hi A n ls)(hk:k<n):∃ ad Ak ck l,A=some ad∧lo≤ad.block∧ad.block<hi∧Hid (ls[k]?=some l)∧w.cell? (ad.add k)=some (.slice Ak l.length ck)∧Reads w lo hi 1 Ak l.length (ints l):=by
 obtain⟨e,rows,hr,hx⟩:=h
 obtain⟨ad,u,eA,hl,hb,hu,hc⟩:=hr.one hk
 have hlt:k<ls.length:=by omega
 obtain⟨Ak,ck,rfl,hrk⟩:=hx.2 k u ls[k] hu.out (List.getElem?_eq_getElem hlt)
 exact⟨ad,Ak,ck,ls[k],eA,hl,hb,List.getElem?_eq_getElem hlt,hc,hrk⟩
end
section
variable {w w':World} {base base' size size' n n':Nat} {e e':TypeId} {v v':Value} {xs xs':List Value}
theorem zo (h:w.ownsRow base e size v n xs)(hb:Ext w w'):w'.ownsRow base e size v n xs:=by
 refine⟨h.1,?_⟩
 rcases h.2 with hn|⟨g,cap,cur,hv,hg,hh,r⟩
 ·exact .inl hn
 ·exact .inr ⟨g,cap,cur,hv,hg,(hb.heap (Array.getElem?_eq_some_iff.1 hh).1).trans hh,r⟩
theorem zi {S:Nat→Prop}(h:w.ownsRow base e size v n xs)(hb:Frm S w w')(hS:∀ b,v.ownBlock=some b→¬ S b):w'.ownsRow base e size v n xs:=by
 refine⟨h.1,?_⟩
 rcases h.2 with hn|⟨g,cap,cur,hv,hg,hh,r⟩
 ·exact .inl hn
 ·exact .inr ⟨g,cap,cur,hv,hg,(hb.block g (Array.getElem?_eq_some_iff.1 hh).1 (hS g (by rw [hv];rfl))).trans hh,r⟩
theorem zaP {S:Nat→Prop}(h:w.ownsRow base e size v n xs)(hb:Frm S w w')(hS:∀ b,base≤b→¬ S b):w'.ownsRow base e size v n xs:=zi h hb fun b hv=>hS b (h.lt b hv).1
theorem zab (h:w.ownsRow base e size v n xs)(hb:base'≤base):w.ownsRow base' e size v n xs:=by
 refine⟨h.1,?_⟩
 rcases h.2 with hn|⟨g,cap,cur,hv,hg,r⟩
 ·exact .inl hn
 ·exact .inr ⟨g,cap,cur,hv,by omega,r⟩
theorem zX (h:w.ownsRow base e size v n xs)(h':w.ownsRow base' e' size' v' n' xs')(hne:e≠e') {b:Nat}(hb:v.ownBlock=some b):v'.ownBlock≠some b:=by
 rcases h.2 with ⟨rfl,_⟩|⟨g,cap,cur,rfl,_,hh,_⟩
 ·simp [Value.ownBlock] at hb
 ·rcases h'.2 with ⟨rfl,_⟩|⟨g',cap',cur',rfl,_,hh',_⟩
  ·simp [Value.ownBlock]
  ·have hb1:g=b:=by simpa [Value.ownBlock] using hb
   subst hb1
   intro he
   have hg:g'=g:=by simpa [Value.ownBlock] using he
   subst hg
   rw [hh] at hh'
   injection hh' with hh'
   injection hh' with _ ht
   exact hne ht
theorem zcj {g n cap:Nat}(h:w.ownsRow base e size (.slice (some ⟨g,0,none⟩) n cap) n xs) (j:Nat)(hj:j<n*size):∃ u,w.cell? ⟨g,j,none⟩=some u:=by
 have hx:j<xs.length:=by rw [h.1];exact hj
 exact⟨xs[j],by rw [h.cellAt j hj,List.getElem?_eq_getElem hx]⟩
end
theorem Ext.toFrm {w w':World} {S:Nat→Prop}(h:Ext w w'):Frm S w w':=⟨h.os,h.tape,h.output,h.size,fun k hk _=>h.block k hk id⟩
theorem Frm.of_grown {w w':World} {row:Option Nat}(h:w.grownBy w' row):Frm (fun k=>row=some k) w w':=
 ⟨h.os,h.tape,h.output,h.size,fun k hk hn=>h.block k hk (fun e=>hn e.symm)⟩
theorem Frm.setCell (w:World) (g j:Nat) (u:Value):Frm (fun k=>k=g) w (w.setCell ⟨g,j,none⟩ u):=
 ⟨rfl,rfl,rfl,by simp [World.setCell],fun k _ hn=>Below.heap_setCell _ _ _ _ hn⟩
theorem Frm.trans {S:Nat→Prop} {a b c:World}(h:Frm S a b) (k:Frm S b c):Frm S a c:=
 ⟨k.os.trans h.os,k.tape.trans h.tape,k.output.trans h.output,Nat.le_trans h.size k.size,fun i hi hn=>(k.block i (Nat.lt_of_lt_of_le hi h.size) hn).trans (h.block i hi hn)⟩
theorem Frm.mono {S T:Nat→Prop} {a b:World}(h:Frm S a b)(hS:∀ k,k<a.heap.size→S k→T k):Frm T a b:=
 ⟨h.os,h.tape,h.output,h.size,fun k hk hn=>h.block k hk (fun hs=>hn (hS k hk hs))⟩
theorem Frm.refl (S:Nat→Prop) (w:World):Frm S w w:=⟨rfl,rfl,rfl,Nat.le_refl _,fun _ _ _=>rfl⟩
theorem Frm.cell {S:Nat→Prop} {a w:World}(h:Frm S a w) {p:Addr}(hp:S p.block) (u:Value):Frm S a (w.setCell p u):=
 ⟨h.os,h.tape,h.output,by simpa [World.setCell] using h.size,fun k hk hn=>(Below.heap_setCell _ _ _ _ (by rintro rfl;exact hn hp)).trans (h.block k hk hn)⟩
theorem Ext.frm {S:Nat→Prop} {a b c:World}(h:Ext a b) (k:Frm S b c)(hS:∀ k,k<a.heap.size→¬ S k):Ext a c:=
 ⟨k.os.trans h.os,k.tape.trans h.tape,k.output.trans h.output,Nat.le_trans h.size k.size,fun i hi hn=>(k.block i (Nat.lt_of_lt_of_le hi h.size) (hS i hi)).trans (h.block i hi hn)⟩
section
variable {α:Type} {l:List α} {p:α→Bool} {k:Nat} {x:α}
theorem zB (h:l[k]?=some x)(hp:p x=false):l.all p=false:=
 List.all_eq_false.2 ⟨x,List.mem_of_getElem? h,by simp [hp]⟩
theorem zan (h:l[k]?=some x)(hk:(l.take k).all p=true)(hp:p x=true):(l.take (k+1)).all p=true:=by
 rw [List.take_add_one,h,List.all_append,hk]
 simp [hp]
theorem zaS (hk:l.length≤k)(h:(l.take k).all p=true):l.all p=true:=by
 rwa [List.take_of_length_le hk] at h
end
def Sm (n:Nat):Prop:=n<4294967296
theorem Sm.lt {n:Nat}(h:Sm n):n<4294967296:=h
theorem Sm.or {a b:Nat}(ha:Sm a)(hb:Sm b):Sm (a|||b):=Nat.or_lt_two_pow (n:=32) ha hb
theorem Sm.and_left {a:Nat} (b:Nat)(ha:Sm a):Sm (a&&&b):=Nat.lt_of_le_of_lt Nat.and_le_left ha
theorem zaL (a:Nat)(ha:a<9223372036854775808):(BitVec.ofInt 64 (a:Int)).toNat=a:=by
 rw [BitVec.ofInt_natCast,BitVec.toNat_ofNat];exact Nat.mod_eq_of_lt (by omega)
theorem bits_and {a b:Nat}(ha:Sm a)(hb:Sm b):bits .and .i64 (a:Int) (b:Int)=((a&&&b:Nat):Int):=by
 have hx:=(Sm.and_left b ha).lt
 have:=ha.lt;have:=hb.lt
 show IntKind.i64.wrap ((BitVec.ofInt 64 (a:Int)&&&BitVec.ofInt 64 (b:Int)).toNat:Int)=_
 rw [BitVec.toNat_and,zaL a (by omega),zaL b (by omega),IntKind.wrap_i64]
 omega
theorem bits_or {a b:Nat}(ha:Sm a)(hb:Sm b):bits .or .i64 (a:Int) (b:Int)=((a|||b:Nat):Int):=by
 have hx:=(Sm.or ha hb).lt
 have:=ha.lt;have:=hb.lt
 show IntKind.i64.wrap ((BitVec.ofInt 64 (a:Int)|||BitVec.ofInt 64 (b:Int)).toNat:Int)=_
 rw [BitVec.toNat_or,zaL a (by omega),zaL b (by omega),IntKind.wrap_i64]
 omega
theorem and_one {x:Nat}(hx:Sm x):bits .and .i64 (x:Int) 1=((x % 2:Nat):Int):=by
 have:=bits_and hx (b:=1) (by unfold Sm;omega)
 rw [nat_mask1] at this
 exact this
theorem div_pow (x n:Nat):(x:Int) / 2 ^ n=((x / 2 ^ n:Nat):Int):=by simp
theorem zcn {x n:Nat}(hx:Sm x)(hn:32≤n):x.testBit n=false:=
 Nat.testBit_lt_two_pow (Nat.lt_of_lt_of_le hx.lt (by rw [show (4294967296:Nat)=2 ^ 32 from rfl];exact Nat.pow_le_pow_right (by omega) hn))
theorem zby {x:Nat}(hx:Sm x) (n:Nat):(bits .and .i64 ((x:Int) / 2 ^ min n 64) 1==1)=x.testBit n:=by
 rw [div_pow,and_one (Nat.lt_of_le_of_lt (Nat.div_le_self _ _) hx)]
 by_cases hn:n≤64
 ·rw [Nat.min_eq_left hn,Nat.testBit_eq_decide_div_mod_eq]
  rw [Bool.eq_iff_iff]
  simp only [beq_iff_eq,decide_eq_true_eq]
  omega
 ·rw [Nat.min_eq_right (by omega),zcn hx (by omega)]
  have:x / 2 ^ 64=0:=Nat.div_eq_of_lt (Nat.lt_trans hx.lt (by decide))
  rw [this];decide
def hasB (s:Nat) (n:Int):Bool:=decide (0≤n)&&s.testBit n.toNat
def zg (a k:Nat):List Nat:=(List.range k).filter fun l=>a.testBit l
theorem zbe (a k:Nat):zg a (k+1)=zg a k++if a.testBit k then [k] else []:=by
 unfold zg
 rw [List.range_succ,List.filter_append]
 cases h:a.testBit k<;>simp [h]
theorem zh (a k:Nat):(zg a k).length≤k:=by
 unfold zg
 have:=List.length_filter_le (fun l=>a.testBit l) (List.range k)
 simpa using this
def zbg (l:List Nat):List Value:=l.map fun n:Nat=>Value.int .i64 (n:Int)
theorem nats_length (l:List Nat):(zbg l).length=l.length:=by simp [zbg]
theorem nats_append (l m:List Nat):zbg (l++m)=zbg l++zbg m:=by simp [zbg]
theorem zj (a:Int) (w:World) :
  Calls Tryz.prog 54 #[.int .i64 a] w fun e w'=>e=.returned (.bool (decide (0≤a∧a≤63)))∧w=w':=by
 by_cases h0:0≤a
 ·go_enter Tryz.func54,Tryz.ntmps54
  go_wp2
  go_ret
  exact⟨by simp [h0],rfl⟩
 ·go_enter Tryz.func54,Tryz.ntmps54
  go_wp2
  go_ret
  exact⟨by simp;omega,rfl⟩
theorem zn (a:Int) (w:World) :
  Calls Tryz.prog 59 #[.int .i64 a] w fun e w'=>e=.returned (.bool (decide (0≤a∧a≤63)))∧w=w':=by
 by_cases h0:0≤a
 ·go_enter Tryz.func59,Tryz.ntmps59
  go_wp2
  go_ret
  exact⟨by simp [h0],rfl⟩
 ·go_enter Tryz.func59,Tryz.ntmps59
  go_wp2
  go_ret
  exact⟨by simp;omega,rfl⟩
theorem zT (s:ByteArray) (i:Nat)(h:i<s.size):(s[i].toNat:Int)<256:=by
 have:=s[i].toNat_lt
 omega
def ltr (b:Int):Int:=if b - 97<0∨6≤b - 97 then -1 else b - 97
theorem zb {a b:Bool}(h:a=b):Ending.returned (.bool a)=.returned (.bool b):=by rw [h]
theorem zaA {k:IntKind} {a b:Int}(h:a=b):Ending.returned (.int k a)=.returned (.int k b):=by rw [h]
theorem zL (s:ByteArray) (i:Nat)(hi:i<s.size) (w:World) :
  Calls Tryz.prog 110 #[.string s,.int .i64 i] w fun e w'=>e=.returned (.int .i64 (ltr s[i].toNat))∧w=w':=by
 have hb:=zT s i hi
 by_cases h0:(s[i].toNat:Int) - 97<0
 ·go_enter Tryz.func110,Tryz.ntmps110
  go_wp2
  go_ret
  exact⟨zaA (by rw [ltr,if_pos (Or.inl h0)]),rfl⟩
 ·by_cases h1:6≤(s[i].toNat:Int) - 97
  ·go_enter Tryz.func110,Tryz.ntmps110
   go_wp2
   go_ret
   exact⟨zaA (by rw [ltr,if_pos (Or.inr h1)]),rfl⟩
  ·go_enter Tryz.func110,Tryz.ntmps110
   go_wp2
   go_ret
   exact⟨zaA (by rw [ltr,if_neg (by omega)]),rfl⟩
theorem zbA (s:ByteArray) (i:Nat)(hi:i<s.size) (w:World) :
  Calls Tryz.prog 62 #[.string s,.int .i64 i] w fun e w'=>e=.returned (.int .i64 (s[i].toNat - 97))∧w=w':=by
 have hb:=zT s i hi
 go_enter Tryz.func62,Tryz.ntmps62
 go_wp2
 go_ret
 exact⟨rfl,rfl⟩
theorem spec_l1Has (s n:Nat)(hs:Sm s) (w:World)(hn:n<9223372036854775808) :
  Calls Tryz.prog 112 #[.int .i64 s,.int .i64 n] w fun e w'=>e=.returned (.bool (s.testBit n))∧w=w':=by
 have hu:IntKind.u64.wrap (n:Int)=n:=by rw [IntKind.wrap_u64];omega
 have hb:=zby hs n
 have Hb:=za hb
 clear hb
 go_enter Tryz.func112,Tryz.ntmps112
 go_wp2
 go_ret
 exact⟨by simp [Hb.out],rfl⟩
theorem zce (s:Nat) (n:Int)(hs:Sm s) (w:World) :
  Calls Tryz.prog 84 #[.int .i64 s,.int .i64 n] w fun e w'=>e=.returned (.bool (hasB s n))∧w=w':=by
 have hb:=zby hs n.toNat
 have Hb:=za hb
 clear hb
 by_cases h0:0≤n
 ·go_enter Tryz.func84,Tryz.ntmps84
  go_wp2
  go_ret
  exact⟨by simp [Hb.out,hasB,h0],rfl⟩
 ·go_enter Tryz.func84,Tryz.ntmps84
  go_wp2
  go_ret
  exact⟨by simp [hasB];omega,rfl⟩
theorem zbh:(Tryz.prog.info? 3).map (fun i=>(i.zero,i.size,i.bytes))=some (some (.int .i64 0),1,8):=by kernel_rfl
def RetNats (w:World) (xs:List Nat) (e:Ending) (w':World):Prop:=
 ∃ A c,e=.returned (.slice A xs.length c)∧w'.ownsRow w.heap.size 3 1 (.slice A xs.length c) xs.length (zbg xs)∧Ext w w'
theorem yP01a6 {P:Prop}(h:P:=by
 go_roundw
 case rel=>exact⟨k+1,by omega,by go_num,by rw [Hls.out];first|simpa [zbg] using zcs|simpa using zco,by assumption⟩
 case measure=>simp [intOf];omega
 ):P:=h
theorem zau (a:Nat)(hs:Sm a) (w:World) :
  Calls Tryz.prog 55 #[.int .i64 a] w (RetNats w (zg a 6)):=by
 go_enter Tryz.func55,Tryz.ntmps55
 go_wp2
 go_loopw [3,5] (fun v i wr=>∃ k:Nat,k≤6∧i=.int .i64 k∧wr.ownsRow w.heap.size 3 1 v (zg a k).length (zbg (zg a k))∧Ext w wr)
  (fun _ i _=>6 - (intOf i).toNat)
 case atStart=>exact⟨0,Nat.zero_le _,rfl,World.ownsRow_nil _ _ _ _,Ext.refl _⟩
 case round =>
  obtain⟨k,hk,rfl,zco,zcq⟩:=hrel
  have hl:=zh a k
  by_cases hlt:k<6
  ·cases hb:a.testBit k
   all_goals
    have Hb:hasB a k=a.testBit k:=by simp [hasB]
    rw [hb] at Hb
    have hls:=zbe a k
    rw [hb] at hls
    have Hls:=za hls
    clear hls hb
    go_wp2_with (first
     |(go_at_call 84;refine (zce a k hs _).mono ?_;rintro e w' ⟨rfl,rfl⟩)
     |(at_builtin;refine zx w wr rfl (.tmp 11) (.tmp 13) _ rfl 3 _ 1 8 Tryz.underlying74 zbh rfl (by decide) u3 _ _ _ _ rfl rfl zcq zco rfl (cells_int _) (by unfold maxLen;omega) (by omega) ?_;intro v' w1 hext1 zcs hg1 hat1))
    exact yP01a6
  ·obtain rfl:k=6:=by omega
   obtain⟨A,c,rfl⟩:=zr zco
   go_wp2
   go_ret
   exact⟨_,_,rfl,zco,zcq⟩
def tot (ls:List (List Int)):Nat:=(ls.map List.length).sum
theorem zaQ {ls:List (List Int)} {k:Nat} {l:List Int}(h:ls[k]?=some l):tot (ls.take (k+1))=tot (ls.take k)+l.length:=by
 rw [List.take_add_one,h]
 simp [tot]
theorem tot_append (a b:List (List Int)):tot (a++b)=tot a+tot b:=by simp [tot]
theorem zbD (ls:List (List Int)) (k:Nat):tot (ls.take k)≤tot ls:=by
 have h:=tot_append (ls.take k) (ls.drop k)
 rw [List.take_append_drop] at h
 omega
structure Aut where
 al:Int
 next:List (List Int)
 acc:List Bool
def zz (w:World) (lo hi:Nat) (A:Option Addr) (n:Nat) (A':Option Addr) (n':Nat) (a:Aut):Prop:=
 zu w lo hi A n a.next∧n'=a.acc.length∧Reads w lo hi 1 A' n' (zD a.acc)
section
variable {w w':World} {lo hi n n':Nat} {A A':Option Addr} {a:Aut}
theorem zz.ext (h:zz w lo hi A n A' n' a)(hb:Ext w w'):zz w' lo hi A n A' n' a:=⟨h.1.ext hb,h.2.1,h.2.2.ext hb⟩
theorem zz.frm {S:Nat→Prop}(h:zz w lo hi A n A' n' a)(hb:Frm S w w')(hS:∀ k,lo≤k→k<hi→¬ S k):zz w' lo hi A n A' n' a:=⟨h.1.frm hb hS,h.2.1,h.2.2.frm hb hS⟩
theorem zz.n1 (h:zz w lo hi A n A' n' a):n=a.next.length:=h.1.1
theorem zz.n2 (h:zz w lo hi A n A' n' a):n'=a.acc.length:=h.2.1
end
theorem info_bool:(Tryz.prog.info? 4).map (fun i=>(i.zero,i.size,i.bytes))=some (some (.bool false),1,1):=by kernel_rfl
theorem info_ints:(Tryz.prog.info? 74).map (fun i=>(i.zero,i.size,i.bytes))=some (some (.slice none 0 0),1,24):=by kernel_rfl
def zf (w:World) (base:Nat) (rows:List Value) (ls:List (List Int)):Prop:=
 rows.length=ls.length∧(∀ (i:Nat) (row:Value) (l:List Int),rows[i]?=some row→ls[i]?=some l→w.ownsRow base 3 1 row l.length (ints l)) ∧
  ∀ (i j:Nat) (ri rj:Value) (b:Nat),rows[i]?=some ri→rows[j]?=some rj→i≠j→ri.ownBlock=some b→rj.ownBlock≠some b
theorem zf.nil (w:World) (base:Nat):zf w base [] []:=⟨rfl,fun i row l h=>by simp at h,fun i j ri rj b h=>by simp at h⟩
theorem zf.ext {w w':World} {base:Nat} {rows:List Value} {ls:List (List Int)}(h:zf w base rows ls)(hb:Ext w w'):zf w' base rows ls:=
 ⟨h.1,fun i row l hr hl=>zo (h.2.1 i row l hr hl) hb,h.2.2⟩
theorem zf.row {w:World} {base:Nat} {rows:List Value} {ls:List (List Int)}(h:zf w base rows ls) {i:Nat} {row:Value}(hr:rows[i]?=some row):∃ l,ls[i]?=some l∧w.ownsRow base 3 1 row l.length (ints l):=by
 have hi:i<rows.length:=(List.getElem?_eq_some_iff.1 hr).1
 have hl:ls[i]?=some (ls[i]'(by rw [← h.1];exact hi)):=List.getElem?_eq_getElem _
 exact⟨_,hl,h.2.1 i row _ hr hl⟩
theorem zf.frm {S:Nat→Prop} {w w':World} {base:Nat} {rows:List Value} {ls:List (List Int)}(h:zf w base rows ls)(hb:Frm S w w')(hS:∀ (i:Nat) (row:Value) (b:Nat),rows[i]?=some row→row.ownBlock=some b→¬ S b):zf w' base rows ls:=
 ⟨h.1,fun i row l hr hl=>zi (h.2.1 i row l hr hl) hb (fun b hb=>hS i row b hr hb),h.2.2⟩
def zaH (w:World) (base:Nat) (v:Value) (ls:List (List Int)):Prop:=∃ rows,w.ownsRow base 74 1 v ls.length rows∧zf w base rows ls
theorem zaH.ext {w w':World} {base:Nat} {v:Value} {ls:List (List Int)}(h:zaH w base v ls)(hb:Ext w w'):zaH w' base v ls:=by
 obtain⟨rows,h1,h2⟩:=h
 exact⟨rows,zo h1 hb,h2.ext hb⟩
theorem zf.keep {S:Nat→Prop} {w w':World} {base:Nat} {rows:List Value} {ls:List (List Int)}(h:zf w base rows ls)(hb:Frm S w w')(hS:∀ b,base≤b→¬ S b):zf w' base rows ls:=
 ⟨h.1,fun i row l hr hl=>zaP (h.2.1 i row l hr hl) hb hS,h.2.2⟩
theorem zf.less {w:World} {base base':Nat} {rows:List Value} {ls:List (List Int)}(h:zf w base rows ls)(hb:base'≤base):zf w base' rows ls:=
 ⟨h.1,fun i row l hr hl=>zab (h.2.1 i row l hr hl) hb,h.2.2⟩
theorem zaH.keep {S:Nat→Prop} {w w':World} {base:Nat} {v:Value} {ls:List (List Int)}(h:zaH w base v ls)(hb:Frm S w w')(hS:∀ b,base≤b→¬ S b):zaH w' base v ls:=by
 obtain⟨rows,h1,h2⟩:=h
 exact⟨rows,zaP h1 hb hS,h2.keep hb hS⟩
theorem zaH.less {w:World} {base base':Nat} {v:Value} {ls:List (List Int)}(h:zaH w base v ls)(hb:base'≤base):zaH w base' v ls:=by
 obtain⟨rows,h1,h2⟩:=h
 exact⟨rows,zab h1 hb,h2.less hb⟩
theorem zaH.reads {w:World} {base:Nat} {A:Option Addr} {n c:Nat} {ls:List (List Int)}(h:zaH w base (.slice A n c) ls)(hn:n=ls.length):zu w base w.heap.size A n ls:=by
 obtain⟨rows,h1,h2⟩:=h
 subst hn
 refine⟨rfl,rows,Reads.of_own h1,h2.1,fun i row l hr hl=>?_⟩
 have ho:=h2.2.1 i row l hr hl
 obtain⟨A',c',rfl⟩:=zr ho
 exact⟨A',c',rfl,Reads.of_own ho⟩
def zA (w:World) (base:Nat) (A:Option Addr) (n c:Nat) (A':Option Addr) (n' c':Nat) (a:Aut):Prop:=
 zaH w base (.slice A n c) a.next∧n=a.next.length∧w.ownsRow base 4 1 (.slice A' n' c') n' (zD a.acc)∧n'=a.acc.length
theorem zA.ext {w w':World} {base:Nat} {A:Option Addr} {n c:Nat} {A':Option Addr} {n' c':Nat} {a:Aut}(h:zA w base A n c A' n' c' a)(hb:Ext w w'):zA w' base A n c A' n' c' a:=
 ⟨h.1.ext hb,h.2.1,zo h.2.2.1 hb,h.2.2.2⟩
theorem zA.keep {S:Nat→Prop} {w w':World} {base:Nat} {A:Option Addr} {n c:Nat} {A':Option Addr} {n' c':Nat} {a:Aut}(h:zA w base A n c A' n' c' a)(hb:Frm S w w')(hS:∀ b,base≤b→¬ S b):zA w' base A n c A' n' c' a:=
 ⟨h.1.keep hb hS,h.2.1,zaP h.2.2.1 hb hS,h.2.2.2⟩
theorem zA.less {w:World} {base base':Nat} {A:Option Addr} {n c:Nat} {A':Option Addr} {n' c':Nat} {a:Aut}(h:zA w base A n c A' n' c' a)(hb:base'≤base):zA w base' A n c A' n' c' a:=
 ⟨h.1.less hb,h.2.1,zab h.2.2.1 hb,h.2.2.2⟩
theorem zA.reads {w:World} {base:Nat} {A:Option Addr} {n c:Nat} {A':Option Addr} {n' c':Nat} {a:Aut}(h:zA w base A n c A' n' c' a):zz w base w.heap.size A n A' n' a:=
 ⟨h.1.reads h.2.1,h.2.2.2,Reads.of_own h.2.2.1⟩
def quietOp:Op→Bool
 |.move _ | .assign _ | .pick _ _ _ | .binOp _ _ _ _ _ | .unOp _ _ _ | .load _ _ | .fieldAddr _ _ _ | .field _ _ _ | .indexAddr _ _ _ | .index _ _ _ | .extract _ _ | .build _ _ | .slice _ _ _ _ _ | .convert _ _ _=>true
 |.call { callee:=.builtin .len,.. }=>true
 |.call { callee:=.builtin .cap,.. }=>true
 |_=>false
structure Edg where
 fr:Int
 le:Int
 ta:Int
deriving DecidableEq
theorem eq_stop {α:Type} [BEq α] [LawfulBEq α] {l m:List α} {k:Nat} {x y:α}(hx:l[k]?=some x)(hy:m[k]?=some y)(h:(x==y)=false):(l==m)=false:=by
 rw [beq_eq_false_iff_ne]
 rintro rfl
 rw [hx] at hy
 injection hy with hy
 subst hy
 simp at h
theorem eq_step {α:Type} [BEq α] [LawfulBEq α] {l m:List α} {k:Nat} {x y:α}(hx:l[k]?=some x)(hy:m[k]?=some y)(h:(x==y)=true)(hk:l.take k=m.take k):l.take (k+1)=m.take (k+1):=by
 rw [List.take_add_one,List.take_add_one,hx,hy,hk,eq_of_beq h]
theorem eq_end {α:Type} [BEq α] [LawfulBEq α] {l m:List α} {k:Nat}(h1:l.length≤k)(h2:m.length≤k)(hk:l.take k=m.take k):(l==m)=true:=by
 rw [List.take_of_length_le h1,List.take_of_length_le h2] at hk
 simp [hk]
theorem eq_lens {α:Type} [BEq α] [LawfulBEq α] {l m:List α}(h:l.length≠m.length):(l==m)=false:=by
 rw [beq_eq_false_iff_ne]
 rintro rfl
 exact h rfl
theorem yP01a7 {P:Prop}(h:P:=by
 obtain rfl:k=n:=by omega
 go_wp2
 go_ret
 exact⟨zb (by rw [eq_end (by have:=Hl.out;omega) (by have:=Hl'.out;omega) heq.out]),zcq⟩
 ):P:=h
theorem eqIntS_any (lo hi lo' hi':Nat) (A:Option Addr) (n c:Nat) (B:Option Addr) (m d:Nat) (l l':List Int) (w:World)(h:Reads w lo hi 1 A n (ints l))(h':Reads w lo' hi' 1 B m (ints l')) :
  Calls Tryz.prog 147 #[.slice A n c,.slice B m d] w fun e w'=>e=.returned (.bool (l==l'))∧Ext w w':=by
 have hn:=h.len
 have hm:=h'.len
 have hl:l.length=n:=by have:=h.length;rw [zaw] at this;omega
 have hl':l'.length=m:=by have:=h'.length;rw [zaw] at this;omega
 have Hl:=za hl
 have Hl':=za hl'
 clear hl hl'
 by_cases he:n=m
 ·subst he
  go_enter Tryz.func147,Tryz.ntmps147
  go_wp2
  go_loopw [5] (fun i wr=>∃ k:Nat,k≤n∧i=.int .i64 k∧Hid (l.take k=l'.take k)∧Ext w wr) (fun i _=>n - (intOf i).toNat)
  case atStart=>exact⟨0,Nat.zero_le _,rfl,rfl,Ext.refl _⟩
  case round =>
   obtain⟨k,hk,rfl,heq,zcq⟩:=hrel
   by_cases hlt:k<n
   ·obtain⟨ad,x,rfl,_,_,hx,hc⟩:=(h.ext zcq).int hlt
    obtain⟨ad',y,rfl,_,_,hy,hc'⟩:=(h'.ext zcq).int hlt
    cases hb:x != y
    ·go_wp2
     go_quiet (fail)
     go_wp2
     go_roundw
     case rel=>exact⟨k+1,by omega,by go_num,eq_step hx.out hy.out (by simpa using hb) heq.out,zcq.drewN _⟩
     case measure=>simp [intOf];omega
    ·go_wp2
     go_quiet (fail)
     go_wp2
     go_ret
     exact⟨zb (by rw [eq_stop hx.out hy.out (by simpa using hb)]),zcq.drewN _⟩
   ·exact yP01a7
 ·have hne:((n:Int) != (m:Int))=true:=by simp;omega
  go_enter Tryz.func147,Tryz.ntmps147
  go_wp2
  go_ret
  exact⟨zb (by rw [eq_lens (by rw [Hl.out,Hl'.out];exact he)]),Ext.refl _⟩
theorem eqBoolS_any (lo hi lo' hi':Nat) (A:Option Addr) (n c:Nat) (B:Option Addr) (m d:Nat) (l l':List Bool) (w:World)(h:Reads w lo hi 1 A n (zD l))(h':Reads w lo' hi' 1 B m (zD l')) :
  Calls Tryz.prog 100 #[.slice A n c,.slice B m d] w fun e w'=>e=.returned (.bool (l==l'))∧Ext w w':=by
 have hn:=h.len
 have hm:=h'.len
 have hl:l.length=n:=by have:=h.length;rw [zag] at this;omega
 have hl':l'.length=m:=by have:=h'.length;rw [zag] at this;omega
 have Hl:=za hl
 have Hl':=za hl'
 clear hl hl'
 by_cases he:n=m
 ·subst he
  go_enter Tryz.func100,Tryz.ntmps100
  go_wp2
  go_loopw [5] (fun i wr=>∃ k:Nat,k≤n∧i=.int .i64 k∧Hid (l.take k=l'.take k)∧Ext w wr) (fun i _=>n - (intOf i).toNat)
  case atStart=>exact⟨0,Nat.zero_le _,rfl,rfl,Ext.refl _⟩
  case round =>
   obtain⟨k,hk,rfl,heq,zcq⟩:=hrel
   by_cases hlt:k<n
   ·obtain⟨ad,x,rfl,_,_,hx,hc⟩:=(h.ext zcq).bool hlt
    obtain⟨ad',y,rfl,_,_,hy,hc'⟩:=(h'.ext zcq).bool hlt
    cases hb:x==y
    ·go_wp2
     go_quiet (fail)
     go_wp2
     go_ret
     exact⟨zb (by rw [eq_stop hx.out hy.out hb]),zcq.drewN _⟩
    ·go_wp2
     go_quiet (fail)
     go_wp2
     go_roundw
     case rel=>exact⟨k+1,by omega,by go_num,eq_step hx.out hy.out hb heq.out,zcq.drewN _⟩
     case measure=>simp [intOf];omega
   ·exact yP01a7
 ·have hne:((n:Int) != (m:Int))=true:=by simp;omega
  go_enter Tryz.func100,Tryz.ntmps100
  go_wp2
  go_ret
  exact⟨zb (by rw [eq_lens (by rw [Hl.out,Hl'.out];exact he)]),Ext.refl _⟩
theorem zbq (lo hi lo' hi':Nat) (A:Option Addr) (n c:Nat) (B:Option Addr) (m d:Nat) (l l':List (List Int)) (w:World)(h:zu w lo hi A n l)(h':zu w lo' hi' B m l') :
  Calls Tryz.prog 99 #[.slice A n c,.slice B m d] w fun e w'=>e=.returned (.bool (l==l'))∧Ext w w':=by
 have hn:=h.len
 have hm:=h'.len
 have Hl:=za h.1
 have Hl':=za h'.1
 by_cases he:n=m
 ·subst he
  go_enter Tryz.func99,Tryz.ntmps99
  go_wp2
  go_loopw [5] (fun i wr=>∃ k:Nat,k≤n∧i=.int .i64 k∧Hid (l.take k=l'.take k)∧Ext w wr) (fun i _=>n - (intOf i).toNat)
  case atStart=>exact⟨0,Nat.zero_le _,rfl,rfl,Ext.refl _⟩
  case round =>
   obtain⟨k,hk,rfl,heq,zcq⟩:=hrel
   by_cases hlt:k<n
   ·obtain⟨ad,Ak,ck,x,rfl,_,_,hx,hc,hrk⟩:=(h.ext zcq).row hlt
    obtain⟨ad',Bk,dk,y,rfl,_,_,hy,hc',hrk'⟩:=(h'.ext zcq).row hlt
    have hce:∀ W,Ext wr W→W.cell? (ad.add k)=some (.slice Ak x.length ck):=fun W hW=>hW.cell_some hc
    have hce':∀ W,Ext wr W→W.cell? (ad'.add k)=some (.slice Bk y.length dk):=fun W hW=>hW.cell_some hc'
    have hwr:=Ext.refl wr
    cases hb:x==y
    all_goals
     have Hb:=za hb
     clear hb
     go_wp2_with fail
     go_region_held3 (fun W=>Ext wr W) (first|assumption|(refine Ext.drew ?_;assumption)|(refine Ext.trans ?_ (by assumption);assumption)|(refine Ext.trans ?_ (by assumption);refine Ext.drew ?_;assumption)) ((go_at_call 147;refine (eqIntS_any _ _ _ _ _ _ _ _ _ _ _ _ _ (hrk.ext ?_) (hrk'.ext ?_)).mono ?_;assumption;assumption;rw [Hb.out];rintro e w3 ⟨rfl,hext3⟩))
     go_wp2
    ·go_ret
     exact⟨zb (by rw [eq_stop hx.out hy.out Hb.out]),zcq.trans (by assumption)⟩
    ·go_roundw
     case rel=>exact⟨k+1,by omega,by go_num,eq_step hx.out hy.out Hb.out heq.out,zcq.trans (by assumption)⟩
     case measure=>simp [intOf];omega
   ·exact yP01a7
 ·have hne:((n:Int) != (m:Int))=true:=by simp;omega
  go_enter Tryz.func99,Tryz.ntmps99
  go_wp2
  go_ret
  exact⟨zb (by rw [eq_lens (by rw [← Hl.out,← Hl'.out];exact he)]),Ext.refl _⟩
def autEq (a b:Aut):Bool:=decide (a.al=b.al)&&(a.next==b.next&&a.acc==b.acc)
theorem autEq_self (a:Aut):autEq a a=true:=by simp [autEq]
theorem zbp (lo hi lo' hi':Nat) (A:Option Addr) (n c:Nat) (A':Option Addr) (n' c':Nat) (B:Option Addr) (m d:Nat) (B':Option Addr) (m' d':Nat) (a b:Aut) (w:World)(h:zz w lo hi A n A' n' a)(h':zz w lo' hi' B m B' m' b) :
  Calls Tryz.prog 48 #[.agg #[.int .i64 a.al,.slice A n c,.slice A' n' c'],.agg #[.int .i64 b.al,.slice B m d,.slice B' m' d']] w fun e w'=>e=.returned (.bool (autEq a b))∧Ext w w':=by
 have hR:=fun W (hW:Ext w W)=>h.ext hW
 have HR:=za hR
 have hR':=fun W (hW:Ext w W)=>h'.ext hW
 have HR':=za hR'
 clear hR hR'
 by_cases h0:a.al=b.al
 ·have hne:(a.al != b.al)=false:=by simp [h0]
  have H0:=za h0
  clear h0
  cases h1:a.next==b.next
  ·have H1:=za h1
   clear h1
   go_enter Tryz.func48,Tryz.ntmps48
   go_wp2_with (go_at_call 99;refine (zbq _ _ _ _ _ _ _ _ _ _ _ _ _ (HR.out _ ?_).1 (HR'.out _ ?_).1).mono ?_;exact ((Ext.refl _).alloc _).alloc _;exact ((Ext.refl _).alloc _).alloc _;rw [H1.out];rintro e w2 ⟨rfl,hext2⟩;obtain⟨b1,b2⟩:=zZ hext2;have c1:=b1.cell;have c2:=b2.cell)
   go_ret
   exact⟨zb (by rw [autEq,H1.out];simp),(((Ext.refl _).alloc _).alloc _).trans hext2⟩
  ·have H1:=za h1
   clear h1
   go_enter Tryz.func48,Tryz.ntmps48
   go_wp2_with (first
    |(go_at_call 99;refine (zbq _ _ _ _ _ _ _ _ _ _ _ _ _ (HR.out _ ?_).1 (HR'.out _ ?_).1).mono ?_;exact ((Ext.refl _).alloc _).alloc _;exact ((Ext.refl _).alloc _).alloc _;rw [H1.out];rintro e w2 ⟨rfl,hext2⟩;obtain⟨b1,b2⟩:=zZ hext2;have c1:=b1.cell;have c2:=b2.cell)
    |(go_at_call 100;refine (eqBoolS_any _ _ _ _ _ _ _ _ _ _ _ _ _ (HR.out _ ?_).2.2 (HR'.out _ ?_).2.2).mono ?_;exact (((Ext.refl _).alloc _).alloc _).trans hext2;exact (((Ext.refl _).alloc _).alloc _).trans hext2;rintro e w3 ⟨rfl,hext3⟩))
   all_goals go_ret
   all_goals exact⟨zb (by rw [autEq,H1.out,H0.out];simp_all),((((Ext.refl _).alloc _).alloc _).trans hext2).trans hext3⟩
 ·have hne:(a.al != b.al)=true:=by simp [h0]
  go_enter Tryz.func48,Tryz.ntmps48
  go_wp2
  go_ret
  exact⟨zb (by rw [autEq];simp [h0]),((Ext.refl _).alloc _).alloc _⟩
instance:BEq Edg:=⟨fun a b=>decide (a.fr=b.fr)&&(decide (a.le=b.le)&&decide (a.ta=b.ta))⟩
theorem edg_beq (a b:Edg):(a==b)=(decide (a.fr=b.fr)&&(decide (a.le=b.le)&&decide (a.ta=b.ta))):=rfl
instance:LawfulBEq Edg where
 eq_of_beq {a b} h:=by
  rw [edg_beq] at h
  simp only [Bool.and_eq_true,decide_eq_true_eq] at h
  cases a;cases b;simp_all
 rfl {a}:=by rw [edg_beq];simp
end Go.Proofs.YtfcjhpodichpjaaGreatDoor
namespace Go.Proofs.YtfcjhpodichpjaaGreatDoor
open Go Go.ChangeShapes Go.WideShapes Go.ChangeAt Go.RowKit Go.Deep
theorem own_:ownKnob Tryz.prog.godebug=none:=by kernel_rfl
theorem laidOut_:laidOutB Tryz.prog=true:=by kernel_rfl
theorem and_t {a b:Bool}(h:a=true) (k:b=true):(a&&b)=true:=by rw [h,k];rfl
end Go.Proofs.YtfcjhpodichpjaaGreatDoor
namespace Go.Proofs.YtfcjhpodichpjaaGreatDoor
open Go Go.RowKit Go.Lib Go.Shelf
def zaj:Go.Shelf.Ren:=⟨fun|146=>64|221=>114|268=>153|138=>154|143=>155|195=>181|197=>182|218=>183|219=>184|260=>217|217=>218|225=>219|224=>220|267=>221|266=>246|314=>247|n=>n,fun|9=>9|31=>61|3=>3|4=>4|0=>0|105=>189|21=>21|5=>5|46=>155|119=>261|139=>264|138=>263|146=>265|51=>233|n=>n,fun|1=>1|3=>4|4=>5|n=>n⟩
theorem zbi:Go.Proofs.Lays.n146 Tryz.prog zaj where
 mixed:=by kernel_rfl
 f138:=Tryz.func154.trans (congrArg some (by kernel_rfl))
 f143:=Tryz.func155.trans (congrArg some (by kernel_rfl))
 f146:=Tryz.func64.trans (congrArg some (by kernel_rfl))
 f195:=Tryz.func181.trans (congrArg some (by kernel_rfl))
 f197:=Tryz.func182.trans (congrArg some (by kernel_rfl))
 f217:=Tryz.func218.trans (congrArg some (by kernel_rfl))
 f218:=Tryz.func183.trans (congrArg some (by kernel_rfl))
 f219:=Tryz.func184.trans (congrArg some (by kernel_rfl))
 f221:=Tryz.func114.trans (congrArg some (by kernel_rfl))
 f224:=Tryz.func220.trans (congrArg some (by kernel_rfl))
 f225:=Tryz.func219.trans (congrArg some (by kernel_rfl))
 f260:=Tryz.func217.trans (congrArg some (by kernel_rfl))
 f266:=Tryz.func246.trans (congrArg some (by kernel_rfl))
 f267:=Tryz.func221.trans (congrArg some (by kernel_rfl))
 f268:=Tryz.func153.trans (congrArg some (by kernel_rfl))
 f314:=Tryz.func247.trans (congrArg some (by kernel_rfl))
 t0:=Tryz.underlying0
 a0:=Tryz.isAgg0
 z0:=Tryz.sizeOf0
 v0:=Tryz.zeroValue0
 t3:=Tryz.underlying3
 a3:=Tryz.isAgg3
 z3:=Tryz.sizeOf3
 v3:=Tryz.zeroValue3
 t4:=Tryz.underlying4
 a4:=Tryz.isAgg4
 z4:=Tryz.sizeOf4
 v4:=Tryz.zeroValue4
 t5:=Tryz.underlying5
 a5:=Tryz.isAgg5
 z5:=Tryz.sizeOf5
 v5:=Tryz.zeroValue5
 t9:=Tryz.underlying9
 a9:=Tryz.isAgg9
 z9:=Tryz.sizeOf9
 v9:=Tryz.zeroValue9
 t21:=Tryz.underlying21
 a21:=Tryz.isAgg21
 z21:=Tryz.sizeOf21
 v21:=Tryz.zeroValue21
 t31:=Tryz.underlying61
 a31:=Tryz.isAgg61
 z31:=Tryz.sizeOf61
 v31:=Tryz.zeroValue61
 t46:=Tryz.underlying155
 a46:=Tryz.isAgg155
 z46:=Tryz.sizeOf155
 v46:=Tryz.zeroValue155
 t51:=Tryz.underlying233
 a51:=Tryz.isAgg233
 z51:=Tryz.sizeOf233
 v51:=Tryz.zeroValue233
 t105:=Tryz.underlying189
 a105:=Tryz.isAgg189
 z105:=Tryz.sizeOf189
 v105:=Tryz.zeroValue189
 t119:=Tryz.underlying261
 a119:=Tryz.isAgg261
 z119:=Tryz.sizeOf261
 t138:=Tryz.underlying263
 a138:=Tryz.isAgg263
 z138:=Tryz.sizeOf263
 v138:=Tryz.zeroValue263
 t139:=Tryz.underlying264
 a139:=Tryz.isAgg264
 z139:=Tryz.sizeOf264
 v139:=Tryz.zeroValue264
 t146:=Tryz.underlying265
 a146:=Tryz.isAgg265
 z146:=Tryz.sizeOf265
 v146:=Tryz.zeroValue265
 g1:=by kernel_rfl
 g3:=by kernel_rfl
 g4:=by kernel_rfl
theorem laySplit9:(Tryz.prog.info? (zaj.t 9)).map (fun i=>(i.zero,i.size,i.bytes))=some (some (.string ByteArray.empty),1,16):=by kernel_rfl
def layAtoi_ren:Go.Shelf.Ren:=⟨fun|172=>116|244=>157|245=>158|247=>186|279=>187|280=>188|281=>189|282=>190|287=>222|316=>223|171=>52|205=>224|321=>248|322=>249|243=>106|246=>150|283=>175|284=>176|285=>177|286=>178|129=>214|317=>213|318=>215|319=>216|320=>196|337=>236|338=>237|n=>n,fun|9=>9|3=>3|75=>122|76=>123|4=>4|5=>5|167=>192|37=>22|0=>0|85=>193|2=>2|168=>195|53=>180|175=>235|46=>155|210=>238|127=>154|145=>270|143=>268|21=>21|171=>179|173=>183|212=>232|51=>233|20=>20|213=>234|232=>278|233=>279|80=>125|n=>n,fun|15=>2|16=>3|17=>0|18=>6|19=>7|n=>n⟩
theorem layAtoi:Go.Proofs.LaysC.n172 Tryz.prog layAtoi_ren where
 mixed:=by kernel_rfl
 f129:=Tryz.func214.trans (congrArg some (by kernel_rfl))
 f171:=Tryz.func52.trans (congrArg some (by kernel_rfl))
 f172:=Tryz.func116.trans (congrArg some (by kernel_rfl))
 f205:=Tryz.func224.trans (congrArg some (by kernel_rfl))
 f243:=Tryz.func106.trans (congrArg some (by kernel_rfl))
 f244:=Tryz.func157.trans (congrArg some (by kernel_rfl))
 f245:=Tryz.func158.trans (congrArg some (by kernel_rfl))
 f246:=Tryz.func150.trans (congrArg some (by kernel_rfl))
 f247:=Tryz.func186.trans (congrArg some (by kernel_rfl))
 f279:=Tryz.func187.trans (congrArg some (by kernel_rfl))
 f280:=Tryz.func188.trans (congrArg some (by kernel_rfl))
 f281:=Tryz.func189.trans (congrArg some (by kernel_rfl))
 f282:=Tryz.func190.trans (congrArg some (by kernel_rfl))
 f283:=Tryz.func175.trans (congrArg some (by kernel_rfl))
 f284:=Tryz.func176.trans (congrArg some (by kernel_rfl))
 f285:=Tryz.func177.trans (congrArg some (by kernel_rfl))
 f286:=Tryz.func178.trans (congrArg some (by kernel_rfl))
 f287:=Tryz.func222.trans (congrArg some (by kernel_rfl))
 f316:=Tryz.func223.trans (congrArg some (by kernel_rfl))
 f317:=Tryz.func213.trans (congrArg some (by kernel_rfl))
 f318:=Tryz.func215.trans (congrArg some (by kernel_rfl))
 f319:=Tryz.func216.trans (congrArg some (by kernel_rfl))
 f320:=Tryz.func196.trans (congrArg some (by kernel_rfl))
 f321:=Tryz.func248.trans (congrArg some (by kernel_rfl))
 f322:=Tryz.func249.trans (congrArg some (by kernel_rfl))
 f337:=Tryz.func236.trans (congrArg some (by kernel_rfl))
 f338:=Tryz.func237.trans (congrArg some (by kernel_rfl))
 t0:=Tryz.underlying0
 a0:=Tryz.isAgg0
 z0:=Tryz.sizeOf0
 v0:=Tryz.zeroValue0
 t2:=Tryz.underlying2
 a2:=Tryz.isAgg2
 z2:=Tryz.sizeOf2
 v2:=Tryz.zeroValue2
 t3:=Tryz.underlying3
 a3:=Tryz.isAgg3
 z3:=Tryz.sizeOf3
 v3:=Tryz.zeroValue3
 t4:=Tryz.underlying4
 a4:=Tryz.isAgg4
 z4:=Tryz.sizeOf4
 v4:=Tryz.zeroValue4
 t5:=Tryz.underlying5
 a5:=Tryz.isAgg5
 z5:=Tryz.sizeOf5
 v5:=Tryz.zeroValue5
 t9:=Tryz.underlying9
 a9:=Tryz.isAgg9
 z9:=Tryz.sizeOf9
 v9:=Tryz.zeroValue9
 t20:=Tryz.underlying20
 a20:=Tryz.isAgg20
 z20:=Tryz.sizeOf20
 v20:=Tryz.zeroValue20
 t21:=Tryz.underlying21
 a21:=Tryz.isAgg21
 z21:=Tryz.sizeOf21
 v21:=Tryz.zeroValue21
 t37:=Tryz.underlying22
 a37:=Tryz.isAgg22
 z37:=Tryz.sizeOf22
 v37:=Tryz.zeroValue22
 t46:=Tryz.underlying155
 a46:=Tryz.isAgg155
 z46:=Tryz.sizeOf155
 v46:=Tryz.zeroValue155
 t51:=Tryz.underlying233
 a51:=Tryz.isAgg233
 z51:=Tryz.sizeOf233
 v51:=Tryz.zeroValue233
 t53:=Tryz.underlying180
 a53:=Tryz.isAgg180
 z53:=Tryz.sizeOf180
 v53:=Tryz.zeroValue180
 t75:=Tryz.underlying122
 a75:=Tryz.isAgg122
 z75:=Tryz.sizeOf122
 v75:=Tryz.zeroValue122
 t76:=Tryz.underlying123
 a76:=Tryz.isAgg123
 z76:=Tryz.sizeOf123
 v76:=Tryz.zeroValue123
 t85:=Tryz.underlying193
 a85:=Tryz.isAgg193
 z85:=Tryz.sizeOf193
 v85:=Tryz.zeroValue193
 t127:=Tryz.underlying154
 a127:=Tryz.isAgg154
 z127:=Tryz.sizeOf154
 v127:=Tryz.zeroValue154
 t143:=Tryz.underlying268
 a143:=Tryz.isAgg268
 z143:=Tryz.sizeOf268
 v143:=Tryz.zeroValue268
 t145:=Tryz.underlying270
 a145:=Tryz.isAgg270
 z145:=Tryz.sizeOf270
 v145:=Tryz.zeroValue270
 t167:=Tryz.underlying192
 a167:=Tryz.isAgg192
 z167:=Tryz.sizeOf192
 v167:=Tryz.zeroValue192
 t168:=Tryz.underlying195
 a168:=Tryz.isAgg195
 z168:=Tryz.sizeOf195
 v168:=Tryz.zeroValue195
 t171:=Tryz.underlying179
 a171:=Tryz.isAgg179
 z171:=Tryz.sizeOf179
 v171:=Tryz.zeroValue179
 t173:=Tryz.underlying183
 a173:=Tryz.isAgg183
 z173:=Tryz.sizeOf183
 v173:=Tryz.zeroValue183
 t175:=Tryz.underlying235
 a175:=Tryz.isAgg235
 z175:=Tryz.sizeOf235
 v175:=Tryz.zeroValue235
 t210:=Tryz.underlying238
 a210:=Tryz.isAgg238
 z210:=Tryz.sizeOf238
 v210:=Tryz.zeroValue238
 t212:=Tryz.underlying232
 a212:=Tryz.isAgg232
 z212:=Tryz.sizeOf232
 v212:=Tryz.zeroValue232
 t213:=Tryz.underlying234
 a213:=Tryz.isAgg234
 z213:=Tryz.sizeOf234
 t232:=Tryz.underlying278
 a232:=Tryz.isAgg278
 z232:=Tryz.sizeOf278
 v232:=Tryz.zeroValue278
 t233:=Tryz.underlying279
 a233:=Tryz.isAgg279
 z233:=Tryz.sizeOf279
 v233:=Tryz.zeroValue279
 g15:=by kernel_rfl
 g16:=by kernel_rfl
 g17:=by kernel_rfl
 g18:=by kernel_rfl
 g19:=by kernel_rfl
 t80:=Tryz.underlying125
 a80:=Tryz.isAgg125
 z80:=Tryz.sizeOf125
 v80:=Tryz.zeroValue125
 i0:=by kernel_rfl
 i2:=by kernel_rfl
 i3:=by kernel_rfl
 i4:=by kernel_rfl
 i5:=by kernel_rfl
 i9:=by kernel_rfl
 i20:=by kernel_rfl
 i21:=by kernel_rfl
 i37:=by kernel_rfl
 i46:=by kernel_rfl
 i51:=by kernel_rfl
 i53:=by kernel_rfl
 i75:=by kernel_rfl
 i76:=by kernel_rfl
 i80:=by kernel_rfl
 i85:=by kernel_rfl
 i127:=by kernel_rfl
 i143:=by kernel_rfl
 i145:=by kernel_rfl
 i167:=by kernel_rfl
 i168:=by kernel_rfl
 i171:=by kernel_rfl
 i173:=by kernel_rfl
 i175:=by kernel_rfl
 i210:=by kernel_rfl
 i212:=by kernel_rfl
 i232:=by kernel_rfl
 i233:=by kernel_rfl
 m15:=by kernel_rfl
 m16:=by kernel_rfl
 m17:=by kernel_rfl
 m18:=by kernel_rfl
 m19:=by kernel_rfl
 c0:=by kernel_rfl
 c2:=by kernel_rfl
 c3:=by kernel_rfl
 c4:=by kernel_rfl
 c5:=by kernel_rfl
 c9:=by kernel_rfl
 c20:=by kernel_rfl
 c21:=by kernel_rfl
 c37:=by kernel_rfl
 c46:=by kernel_rfl
 c51:=by kernel_rfl
 c53:=by kernel_rfl
 c75:=by kernel_rfl
 c76:=by kernel_rfl
 c80:=by kernel_rfl
 c85:=by kernel_rfl
 c127:=by kernel_rfl
 c143:=by kernel_rfl
 c145:=by kernel_rfl
 c167:=by kernel_rfl
 c168:=by kernel_rfl
 c171:=by kernel_rfl
 c173:=by kernel_rfl
 c175:=by kernel_rfl
 c210:=by kernel_rfl
 c212:=by kernel_rfl
 c213:=by kernel_rfl
 c232:=by kernel_rfl
 c233:=by kernel_rfl
end Go.Proofs.YtfcjhpodichpjaaGreatDoor
namespace Go.Proofs.YtfcjhpodichpjaaGreatDoor
open Go Go.RowKit
theorem zU (a:Nat)(hs:Sm a) (w:World) :
  Calls Tryz.prog 61 #[.int .i64 a] w (RetNats w (zg a 6)):=by
 go_enter Tryz.func61,Tryz.ntmps61
 go_wp2
 go_loopw [3,4] (fun v i wr=>∃ k:Nat,k≤6∧i=.int .i64 k∧wr.ownsRow w.heap.size 3 1 v (zg a k).length (zbg (zg a k))∧Ext w wr)
  (fun _ i _=>6 - (intOf i).toNat)
 case atStart=>exact⟨0,Nat.zero_le _,rfl,World.ownsRow_lit w #[] 0 (Nat.le_refl _) (by unfold maxLen;omega) rfl,(Ext.refl _).alloc _⟩
 case round =>
  obtain⟨k,hk,rfl,zco,zcq⟩:=hrel
  have hl:=zh a k
  by_cases hlt:k<6
  ·cases hb:a.testBit k
   all_goals
    have Hb:=za hb
    have hls:=zbe a k
    rw [hb] at hls
    have Hls:=za hls
    clear hls hb
    go_wp2_with (first
     |(go_at_call 112;refine (spec_l1Has a k hs _ (by omega)).mono ?_;rw [Hb.out];rintro e w' ⟨rfl,rfl⟩)
     |(at_builtin;refine zx w wr rfl _ _ _ rfl 3 _ 1 8 Tryz.underlying74 zbh rfl (by decide) u3 _ _ _ _ rfl rfl zcq zco rfl (cells_int _) (by unfold maxLen;omega) (by omega) ?_;intro v' w1 hext1 zcs hg1 hat1))
    exact yP01a6
  ·obtain rfl:k=6:=by omega
   obtain⟨A,c,rfl⟩:=zr zco
   go_wp2
   go_ret
   exact⟨_,_,rfl,zco,zcq⟩
def zaa (b:UInt8):Bool:=decide (97≤(b.toNat:Int)∧(b.toNat:Int)≤102)
def zbc (s:ByteArray):Bool:=decide (s.size≤50000)&&s.data.toList.all zaa
theorem zQ (s:ByteArray) (i:Nat)(h:i<s.size):s.data.toList[i]?=some s[i]:=by
 rw [List.getElem?_eq_getElem (by simpa using h)];rfl
theorem yP01a4 {P:Prop}(h:P:=by
 go_wp2_with (go_at_call 62;refine (zbA s k hlt _).mono ?_;rw [hx.out];rintro e w' ⟨rfl,rfl⟩)
 go_ret
 exact⟨zb (by rw [zbc,zB hg.out (by have:=hx.out;simp [zaa];omega),Bool.and_false]),rfl⟩
 ):P:=h
theorem zbJ (s:ByteArray) (w:World)(hs:s.size≤9223372036854775807) :
  Calls Tryz.prog 29 #[.string s] w fun e w'=>e=.returned (.bool (zbc s))∧w=w':=by
 by_cases h:50000<s.size
 ·go_enter Tryz.func29,Tryz.ntmps29
  go_wp2
  go_ret
  exact⟨by simp [zbc,show ¬ s.size≤50000 by omega],rfl⟩
 ·go_enter Tryz.func29,Tryz.ntmps29
  go_wp2
  go_loop [3] (fun i=>∃ k:Nat,k≤s.size∧i=.int .i64 k∧Hid ((s.data.toList.take k).all zaa=true)) (fun i=>s.size - (intOf i).toNat)
  case atStart=>exact⟨0,Nat.zero_le _,rfl,rfl⟩
  case round =>
   obtain⟨k,hk,rfl,hall⟩:=hrel
   by_cases hlt:k<s.size
   ·have hg:=za (zQ s k hlt)
    obtain⟨x,hx,hx0,hx1⟩:∃ x:Int,Hid ((s[k].toNat:Int) - 97=x) ∧ -97≤x∧x≤158:=⟨(s[k].toNat:Int) - 97,za rfl,by omega,by have:=zT s k hlt;omega⟩
    by_cases h0:x<0
    ·exact yP01a4
    ·by_cases h1:6≤x
     ·exact yP01a4
     ·go_wp2_with (go_at_call 62;refine (zbA s k hlt _).mono ?_;rw [hx.out];rintro e w' ⟨rfl,rfl⟩)
      go_round
      case rel=>exact⟨k+1,by omega,by go_num,zan hg.out hall.out (by have:=hx.out;simp [zaa];omega)⟩
      case measure=>simp [intOf];omega
   ·obtain rfl:k=s.size:=by omega
    go_wp2
    go_ret
    exact⟨zb (by rw [zbc,zaS (by simp) hall.out];simp;omega),rfl⟩
def overB (s:ByteArray) (a:Nat):Bool:=s.data.toList.all fun b=>hasB a (ltr b.toNat)
theorem over_all {a:Nat}(h:a=63) (b:UInt8):hasB a (ltr b.toNat)=zaa b:=by
 subst h
 have:b.toNat<256:=b.toNat_lt
 unfold hasB ltr zaa
 by_cases h1:(b.toNat:Int) - 97<0
 ·rw [if_pos (.inl h1)];simp;omega
 ·by_cases h2:6≤(b.toNat:Int) - 97
  ·rw [if_pos (.inr h2)];simp;omega
  ·rw [if_neg (by omega)]
   have h3:b.toNat=97∨b.toNat=98∨b.toNat=99∨b.toNat=100∨b.toNat=101∨b.toNat=102:=by omega
   rcases h3 with h|h|h|h|h|h<;>rw [h]<;>decide
theorem overB_63 (s:ByteArray):overB s 63=s.data.toList.all zaa:=by
 unfold overB
 congr 1
 funext b
 exact over_all rfl b
theorem zbt (s:ByteArray) (a:Nat) (w:World)(hs:s.size≤9223372036854775807)(ha:a≤63) :
  Calls Tryz.prog 56 #[.string s,.int .i64 a] w fun e w'=>e=.returned (.bool (decide (s.size≤50000)&&overB s a))∧w=w':=by
 have hsm:Sm a:=by unfold Sm;omega
 have hal:(decide ((0:Int)≤a∧(a:Int)≤63))=true:=by simp;omega
 have Hal:=za hal
 clear hal
 by_cases h:50000<s.size
 ·go_enter Tryz.func56,Tryz.ntmps56
  go_wp2_with (go_at_call 54;refine (zj _ _).mono ?_;rw [Hal.out];rintro e w' ⟨rfl,rfl⟩)
  go_ret
  exact⟨by simp [show ¬ s.size≤50000 by omega],rfl⟩
 ·go_enter Tryz.func56,Tryz.ntmps56
  go_wp2_with (go_at_call 54;refine (zj _ _).mono ?_;rw [Hal.out];rintro e w' ⟨rfl,rfl⟩)
  go_loop [16] (fun i=>∃ k:Nat,k≤s.size∧i=.int .i64 k∧Hid ((s.data.toList.take k).all (fun b=>hasB a (ltr b.toNat))=true)) (fun i=>s.size - (intOf i).toNat)
  case atStart=>exact⟨0,Nat.zero_le _,rfl,rfl⟩
  case round =>
   obtain⟨k,hk,rfl,hall⟩:=hrel
   by_cases hlt:k<s.size
   ·have hg:=za (zQ s k hlt)
    cases hb:hasB a (ltr (s[k].toNat:Int))
    ·have Hb:=za hb
     clear hb
     go_wp2_with (first|(go_at_call 110;refine (zL s k hlt _).mono ?_;rintro e w' ⟨rfl,rfl⟩)|(go_at_call 84;refine (zce _ _ hsm _).mono ?_;rw [Hb.out];rintro e w' ⟨rfl,rfl⟩))
     go_ret
     exact⟨zb (by rw [overB,zB hg.out Hb.out,Bool.and_false]),rfl⟩
    ·have Hb:=za hb
     clear hb
     go_wp2_with (first|(go_at_call 110;refine (zL s k hlt _).mono ?_;rintro e w' ⟨rfl,rfl⟩)|(go_at_call 84;refine (zce _ _ hsm _).mono ?_;rw [Hb.out];rintro e w' ⟨rfl,rfl⟩))
     go_round
     case rel=>exact⟨k+1,by omega,by go_num,zan hg.out hall.out Hb.out⟩
     case measure=>simp [intOf];omega
   ·obtain rfl:k=s.size:=by omega
    go_wp2
    go_ret
    exact⟨zb (by rw [overB,zaS (by simp) hall.out];simp;omega),rfl⟩
theorem zbH (s:ByteArray) (w:World)(hs:s.size≤9223372036854775807) :
  Calls Tryz.prog 25 #[.string s] w fun e w'=>e=.returned (.bool (zbc s))∧w=w':=by
 have hov:=overB_63 s
 have Hov:=za hov
 clear hov
 go_enter Tryz.func25,Tryz.ntmps25
 go_wp2_with (go_at_call 56;refine (zbt s 63 _ hs (by omega)).mono ?_;rintro e w' ⟨rfl,rfl⟩)
 go_ret
 exact⟨zb (by rw [Hov.out];rfl),rfl⟩
def rowB (k n:Nat) (row:List Int):Bool:=decide (row.length=k)&&row.all fun q=>decide (0≤q∧q<n)
def zc (a:Aut):Bool:=
 decide (0≤a.al∧a.al≤63)&&(decide (1≤a.next.length∧a.next.length≤12)&&(decide (a.acc.length=a.next.length)&&a.next.all (rowB (zg a.al.toNat 6).length a.next.length)))
theorem zbT (lo hi:Nat) (A:Option Addr) (n c:Nat) (l:List Int) (k m:Nat) (w:World)(h:Reads w lo hi 1 A n (ints l))(hk:k≤100) (_hm:m≤100) :
  Calls Tryz.prog 60 #[.slice A n c,.int .i64 k,.int .i64 m] w fun e w'=>e=.returned (.bool (rowB k m l))∧w=w':=by
 have hn:=h.len
 have hl:l.length=n:=by have:=h.length;rw [zaw] at this;omega
 have Hl:=za hl
 clear hl
 by_cases he:n=k
 ·subst he
  go_enter Tryz.func60,Tryz.ntmps60
  go_wp2
  go_loop [7] (fun i=>∃ k:Nat,k≤n∧i=.int .i64 k∧Hid ((l.take k).all (fun q=>decide (0≤q∧q<m))=true)) (fun i=>n - (intOf i).toNat)
  case atStart=>exact⟨0,Nat.zero_le _,rfl,rfl⟩
  case round =>
   obtain⟨k,hk,rfl,hall⟩:=hrel
   by_cases hlt:k<n
   ·obtain⟨ad,x,rfl,_,_,hx,hcell⟩:=h.int hlt
    by_cases h0:x<0
    ·go_wp2
     go_ret
     exact⟨zb (by rw [rowB,zB hx.out (by simp;omega),Bool.and_false]),rfl⟩
    ·by_cases h1:(m:Int)≤x
     ·go_wp2
      go_ret
      exact⟨zb (by rw [rowB,zB hx.out (by simp;omega),Bool.and_false]),rfl⟩
     ·go_wp2
      go_round
      case rel=>exact⟨k+1,by omega,by go_num,zan hx.out hall.out (by simp;omega)⟩
      case measure=>simp [intOf];omega
   ·obtain rfl:k=n:=by omega
    go_wp2
    go_ret
    exact⟨zb (by rw [rowB,zaS (by have:=Hl.out;omega) hall.out,Hl.out];simp),rfl⟩
 ·go_enter Tryz.func60,Tryz.ntmps60
  go_wp2
  go_ret
  exact⟨zb (by rw [rowB,Hl.out];simp [he]),rfl⟩
theorem zP (lo hi:Nat) (A:Option Addr) (n c:Nat) (A':Option Addr) (n' c':Nat) (a:Aut) (w:World)(h:zz w lo hi A n A' n' a) :
  Calls Tryz.prog 27 #[.agg #[.int .i64 a.al,.slice A n c,.slice A' n' c']] w fun e w'=>e=.returned (.bool (zc a))∧Ext w w':=by
 have h1:=h.n1
 have h2:=h.n2
 have Hv:=za (show zc a=(decide (0≤a.al∧a.al≤63)&&(decide (1≤n∧n≤12)&&(decide (n'=n)&&a.next.all (rowB (zg a.al.toNat 6).length n)))) by unfold zc;rw [← h1,← h2])
 have hl1:=h.1.len
 have hl2:=h.2.2.len
 clear h1 h2
 by_cases hal:0≤a.al∧a.al≤63
 ·have hd:=za (show decide (0≤a.al∧a.al≤63)=true by simp;omega)
  by_cases hn:1≤n∧n≤12
  ·have hd1:decide ((n:Int)<1)=false:=by simp;omega
   have hd2:decide (12<(n:Int))=false:=by simp;omega
   by_cases hn':n'=n
   ·subst hn'
    obtain⟨al,hal'⟩:∃ al:Nat,Hid (a.al=al):=⟨a.al.toNat,by unfold Hid;omega⟩
    have hsm:Sm al:=by have:=hal'.out;unfold Sm;omega
    have hll:=zh al 6
    rw [hal'.out]
    rw [hal'.out] at hd
    rw [hal'.out,Int.toNat_natCast] at Hv
    clear hal
    have hR:=fun W (hW:Ext w W)=>h.1.ext hW
    have HR:=za hR
    clear hR
    go_enter Tryz.func27,Tryz.ntmps27
    go_wp2_with (go_at_call 59;refine (zn _ _).mono ?_;rw [hd.out];rintro e w' ⟨rfl,rfl⟩)
    go_loopw [4] (fun i wr=>∃ k:Nat,k≤n'∧i=.int .i64 k∧Hid ((a.next.take k).all (rowB (zg al 6).length n')=true)∧Ext (w.alloc (.cells #[Value.int .i64 al,Value.slice A n' c,Value.slice A' n' c'] 26)) wr)
     (fun i _=>n' - (intOf i).toNat)
    case atStart=>exact⟨0,Nat.zero_le _,rfl,rfl,Ext.refl _⟩
    case round =>
     obtain⟨k,hk,rfl,hall,zcq⟩:=hrel
     have hbox:∀ W,Ext wr W→∀ j,W.cell? ⟨w.heap.size,j,none⟩=#[Value.int .i64 al,Value.slice A n' c,Value.slice A' n' c'][j]?:=fun W hW=>zaU (zcq.trans hW)
     by_cases hlt:k<n'
     ·obtain⟨ad,Ak,ck,l,rfl,hlo,hhi,hl,hcell,hrk⟩:=(HR.out wr (((Ext.refl _).alloc _).trans zcq)).row hlt
      have hce:∀ W,Ext wr W→W.cell? (ad.add k)=some (.slice Ak l.length ck):=fun W hW=>hW.cell_some hcell
      have hwr:=Ext.refl wr
      have zcr:∀ W,Ext wr W→Ext w W:=fun W hW=>(((Ext.refl _).alloc _).trans zcq).trans hW
      have Hfin:=za zcr
      clear zcr
      cases hrb:rowB (zg al 6).length n' l
      ·have Hrb:=za hrb
       clear hrb
       go_wp2_with fail
       go_region_held3 (fun W=>Ext wr W) (first|assumption|(refine Ext.drew ?_;assumption)|(refine Ext.trans ?_ (by assumption);assumption)|(refine Ext.trans ?_ (by assumption);refine Ext.drew ?_;assumption)) (first|(go_at_call 61;refine (zU _ hsm _).mono ?_;rintro e w2 ⟨A2,c2,rfl,zct,hext2⟩)|(go_at_call 60;refine (zbT _ _ _ _ _ _ _ _ _ (hrk.ext ?_) (by omega) (by omega)).mono ?_;assumption;rw [Hrb.out];rintro e w3 ⟨rfl,rfl⟩))
       go_wp2
       go_ret
       exact⟨zb (by rw [Hv.out,zB hl.out Hrb.out];simp),Hfin.out _ (by assumption)⟩
      ·have Hrb:=za hrb
       clear hrb
       go_wp2_with fail
       go_region_held3 (fun W=>Ext wr W) (first|assumption|(refine Ext.drew ?_;assumption)|(refine Ext.trans ?_ (by assumption);assumption)|(refine Ext.trans ?_ (by assumption);refine Ext.drew ?_;assumption)) (first|(go_at_call 61;refine (zU _ hsm _).mono ?_;rintro e w2 ⟨A2,c2,rfl,zct,hext2⟩)|(go_at_call 60;refine (zbT _ _ _ _ _ _ _ _ _ (hrk.ext ?_) (by omega) (by omega)).mono ?_;assumption;rw [Hrb.out];rintro e w3 ⟨rfl,rfl⟩))
       go_wp2
       go_roundw
       case rel=>exact⟨k+1,by omega,by go_num,zan hl.out hall.out Hrb.out,zcq.trans (by assumption)⟩
       case measure=>simp [intOf];omega
     ·obtain rfl:k=n':=by omega
      go_wp2
      go_ret
      exact⟨zb (by rw [Hv.out,zaS (by have:=h.n1;omega) hall.out,hd.out];simp;omega),((Ext.refl _).alloc _).trans zcq⟩
   ·have hne:((n':Int) != (n:Int))=true:=by simp;omega
    go_enter Tryz.func27,Tryz.ntmps27
    go_wp2_with (go_at_call 59;refine (zn _ _).mono ?_;rw [hd.out];rintro e w' ⟨rfl,rfl⟩)
    go_ret
    exact⟨zb (by rw [Hv.out];simp [hn']),(Ext.refl _).alloc _⟩
  ·go_enter Tryz.func27,Tryz.ntmps27
   go_wp2_with (go_at_call 59;refine (zn _ _).mono ?_;rw [hd.out];rintro e w' ⟨rfl,rfl⟩)
   all_goals go_ret
   all_goals exact⟨zb (by rw [Hv.out];simp [hn]),(Ext.refl _).alloc _⟩
 ·go_enter Tryz.func27,Tryz.ntmps27
  have hd:decide (0≤a.al∧a.al≤63)=false:=by simp;omega
  go_wp2_with (go_at_call 59;refine (zn _ _).mono ?_;rw [hd];rintro e w' ⟨rfl,rfl⟩)
  go_ret
  exact⟨zb (by rw [Hv.out];simp;omega),(Ext.refl _).alloc _⟩
theorem zM (lo hi:Nat) (A:Option Addr) (n c:Nat) (A':Option Addr) (n' c':Nat) (a:Aut) (w:World)(h:zz w lo hi A n A' n' a) :
  Calls Tryz.prog 24 #[.agg #[.int .i64 a.al,.slice A n c,.slice A' n' c']] w fun e w'=>e=.returned (.bool (zc a))∧Ext w w':=by
 have h1:=h.n1
 have h2:=h.n2
 have Hv:=za (show zc a=(decide (0≤a.al∧a.al≤63)&&(decide (1≤n∧n≤12)&&(decide (n'=n)&&a.next.all (rowB (zg a.al.toNat 6).length n)))) by unfold zc;rw [← h1,← h2])
 have hl1:=h.1.len
 have hl2:=h.2.2.len
 clear h1 h2
 by_cases hal:0≤a.al∧a.al≤63
 ·have hd:=za (show decide (0≤a.al∧a.al≤63)=true by simp;omega)
  by_cases hn:1≤n∧n≤12
  ·have hd1:decide ((n:Int)<1)=false:=by simp;omega
   have hd2:decide (12<(n:Int))=false:=by simp;omega
   by_cases hn':n'=n
   ·subst hn'
    obtain⟨al,hal'⟩:∃ al:Nat,Hid (a.al=al):=⟨a.al.toNat,by unfold Hid;omega⟩
    have hsm:Sm al:=by have:=hal'.out;unfold Sm;omega
    have hll:=zh al 6
    rw [hal'.out]
    rw [hal'.out] at hd
    rw [hal'.out,Int.toNat_natCast] at Hv
    clear hal
    have hR:=fun W (hW:Ext w W)=>h.1.ext hW
    have HR:=za hR
    clear hR
    go_enter Tryz.func24,Tryz.ntmps24
    go_wp2_with (first
     |(go_at_call 54;refine (zj _ _).mono ?_;rw [hd.out];rintro e w' ⟨rfl,rfl⟩)
     |(go_at_call 55;refine (zau _ hsm _).mono ?_;rintro e w2 ⟨A2,c2,rfl,zct,hext2⟩;have hbox2:=zaU hext2))
    go_loopw [40] (fun i wr=>∃ k:Nat,k≤n'∧i=.int .i64 k∧Hid ((a.next.take k).all (rowB (zg al 6).length n')=true)∧Ext w2 wr)
     (fun i _=>n' - (intOf i).toNat)
    case atStart=>exact⟨0,Nat.zero_le _,rfl,rfl,Ext.refl _⟩
    case round =>
     obtain⟨k,hk,rfl,hall,zcq⟩:=hrel
     have hbox:∀ W,Ext wr W→∀ j,W.cell? ⟨w.heap.size,j,none⟩=#[Value.int .i64 al,Value.slice A n' c,Value.slice A' n' c'][j]?:=fun W hW=>zaU ((hext2.trans zcq).trans hW)
     have hwr:=Ext.refl wr
     clear hbox2
     have zcr:Ext w wr:=(((Ext.refl _).alloc _).trans hext2).trans zcq
     by_cases hlt:k<n'
     ·obtain⟨ad,Ak,ck,l,rfl,hlo,hhi,hl,hcell,hrk⟩:=(HR.out wr zcr).row hlt
      by_cases hlk:l.length=(zg al 6).length
      ·obtain⟨m,hm⟩:∃ m,Hid ((zg al 6).length=m):=⟨_,rfl⟩
       have hlm:Hid (l.length=m):=by have:=hm.out;unfold Hid;omega
       rw [hm.out] at hll ⊢
       rw [hm.out] at hall Hv
       rw [hlm.out] at hcell hrk
       clear hlk
       go_wp2_with fail
       go_loop [50] (fun i=>∃ j:Nat,j≤m∧i=.int .i64 j∧Hid ((l.take j).all (fun q=>decide (0≤q∧q<n'))=true)) (fun i=>m - (intOf i).toNat)
       case atStart=>exact⟨0,Nat.zero_le _,rfl,rfl⟩
       case round =>
        obtain⟨j,hj,rfl,hallj⟩:=hrel
        by_cases hltj:j<m
        ·obtain⟨ad2,x,rfl,_,_,hx,hcell2⟩:=hrk.int hltj
         by_cases h0:x<0
         ·go_wp2
          go_ret
          exact⟨zb (by rw [Hv.out,zB hl.out (by rw [rowB,zB hx.out (by simp;omega),Bool.and_false])];simp),zcr⟩
         ·by_cases h1:(n':Int)≤x
          ·go_wp2
           go_ret
           exact⟨zb (by rw [Hv.out,zB hl.out (by rw [rowB,zB hx.out (by simp;omega),Bool.and_false])];simp),zcr⟩
          ·go_wp2
           go_round
           case rel=>exact⟨j+1,by omega,by go_num,zan hx.out hallj.out (by simp;omega)⟩
           case measure=>simp [intOf];omega
        ·obtain rfl:j=m:=by omega
         go_wp2
         go_roundw
         case rel=>exact⟨k+1,by omega,by go_num,zan hl.out hall.out (by rw [rowB,zaS (by have:=hlm.out;omega) hallj.out,hlm.out];simp),zcq⟩
         case measure=>simp [intOf];omega
      ·have hne:((l.length:Int) != ((zg al 6).length:Int))=true:=by simp;omega
       go_wp2
       go_ret
       exact⟨zb (by rw [Hv.out,zB hl.out (by simp [rowB,hlk])];simp),zcr⟩
     ·obtain rfl:k=n':=by omega
      go_wp2
      go_ret
      exact⟨zb (by rw [Hv.out,zaS (by have:=h.n1;omega) hall.out,hd.out];simp;omega),zcr⟩
   ·have hne:((n':Int) != (n:Int))=true:=by simp;omega
    go_enter Tryz.func24,Tryz.ntmps24
    go_wp2_with (go_at_call 54;refine (zj _ _).mono ?_;rw [hd.out];rintro e w' ⟨rfl,rfl⟩)
    go_ret
    exact⟨zb (by rw [Hv.out];simp [hn']),(Ext.refl _).alloc _⟩
  ·go_enter Tryz.func24,Tryz.ntmps24
   go_wp2_with (go_at_call 54;refine (zj _ _).mono ?_;rw [hd.out];rintro e w' ⟨rfl,rfl⟩)
   all_goals go_ret
   all_goals exact⟨zb (by rw [Hv.out];simp [hn]),(Ext.refl _).alloc _⟩
 ·go_enter Tryz.func24,Tryz.ntmps24
  have hd:decide (0≤a.al∧a.al≤63)=false:=by simp;omega
  go_wp2_with (go_at_call 54;refine (zj _ _).mono ?_;rw [hd];rintro e w' ⟨rfl,rfl⟩)
  go_ret
  exact⟨zb (by rw [Hv.out];simp;omega),(Ext.refl _).alloc _⟩
def zY (a:Aut):Bool:=decide (a.al=0)&&(decide (a.next.length=0)&&decide (a.acc.length=0))
theorem spec_l13None (lo hi:Nat) (A:Option Addr) (n c:Nat) (A':Option Addr) (n' c':Nat) (a:Aut) (w:World)(h:zz w lo hi A n A' n' a) :
  Calls Tryz.prog 28 #[.agg #[.int .i64 a.al,.slice A n c,.slice A' n' c']] w fun e w'=>e=.returned (.bool (zY a))∧Ext w w':=by
 have Hv:=za (show zY a=(decide (a.al=0)&&(decide (n=0)&&decide (n'=0))) by unfold zY;rw [← h.n1,← h.n2])
 have hl1:=h.1.len
 have hl2:=h.2.2.len
 clear h
 by_cases h0:a.al=0
 ·have hb:((a.al:Int)==0)=true:=by simp [h0]
  have H0:=za h0
  clear h0
  by_cases h1:n=0
  ·have hb1:((n:Int)==0)=true:=by simp [h1]
   have H1:=za h1
   clear h1
   go_enter Tryz.func28,Tryz.ntmps28
   go_wp2
   go_ret
   exact⟨zb (by rw [Hv.out,H0.out,H1.out];by_cases h2:n'=0<;>simp [h2]),(Ext.refl _).alloc _⟩
  ·have hb1:((n:Int)==0)=false:=by simp [h1]
   go_enter Tryz.func28,Tryz.ntmps28
   go_wp2
   go_ret
   exact⟨zb (by rw [Hv.out];simp [h1]),(Ext.refl _).alloc _⟩
 ·have hb:((a.al:Int)==0)=false:=by simp [h0]
  go_enter Tryz.func28,Tryz.ntmps28
  go_wp2
  go_ret
  exact⟨zb (by rw [Hv.out];simp [h0]),(Ext.refl _).alloc _⟩
def zd (hd:Bool) (a:Aut) (s:ByteArray):Bool:=if hd then zc a&&s.toList.isEmpty else zY a&&zbc s
theorem zal (lo hi:Nat) (A:Option Addr) (n c:Nat) (A':Option Addr) (n' c':Nat)(hd:Bool) (a:Aut) (s:ByteArray) (w:World)(h:zz w lo hi A n A' n' a)(hs:s.size≤9223372036854775807) :
  Calls Tryz.prog 10 #[.agg #[.bool hd,.int .i64 a.al,.slice A n c,.slice A' n' c',.string s]] w fun e w'=>e=.returned (.bool (zd hd a s))∧Ext w w':=by
 have hR:=fun W (hW:Ext w W)=>h.ext hW
 have HR:=za hR
 clear hR
 cases hd
 ·cases hb:zY a
  all_goals
   have Hb:=za hb
   clear hb
   go_enter Tryz.func10,Tryz.ntmps10
   go_wp2_with (first
    |(go_at_call 28;refine (spec_l13None _ _ _ _ _ _ _ _ _ _ (HR.out _ ?_)).mono ?_;exact (Ext.refl _).alloc _;rw [Hb.out];rintro e w2 ⟨rfl,hext2⟩;have hbox:=zaU hext2)
    |(go_at_call 29;refine (zbJ s _ hs).mono ?_;rintro e w' ⟨rfl,rfl⟩))
   go_ret
   exact⟨zb (by rw [zd,Hb.out];simp),((Ext.refl _).alloc _).trans hext2⟩
 ·cases hb:zc a
  all_goals
   have Hb:=za hb
   clear hb
   go_enter Tryz.func10,Tryz.ntmps10
   go_wp2_with (go_at_call 27;refine (zP _ _ _ _ _ _ _ _ _ _ (HR.out _ ?_)).mono ?_;exact (Ext.refl _).alloc _;rw [Hb.out];rintro e w2 ⟨rfl,hext2⟩;have hbox:=zaU hext2)
   go_ret
   exact⟨zb (by rw [zd,Hb.out];simp),((Ext.refl _).alloc _).trans hext2⟩
theorem zai (lo hi:Nat) (A:Option Addr) (n c:Nat) (A':Option Addr) (n' c':Nat)(hd:Bool) (a:Aut) (s:ByteArray) (w:World)(h:zz w lo hi A n A' n' a)(hs:s.size≤9223372036854775807) :
  Calls Tryz.prog 8 #[.agg #[.bool hd,.int .i64 a.al,.slice A n c,.slice A' n' c',.string s]] w fun e w'=>e=.returned (.bool (zd hd a s))∧Ext w w':=by
 have hR:=fun W (hW:Ext w W)=>h.ext hW
 have HR:=za hR
 clear hR
 cases hd
 ·have Hv:=za (show zY a=(decide (a.al=0)&&(decide (n=0)&&decide (n'=0))) by unfold zY;rw [← h.n1,← h.n2])
  have hl1:=h.1.len
  have hl2:=h.2.2.len
  clear h
  by_cases h0:a.al=0
  ·have hb:((a.al:Int)==0)=true:=by simp [h0]
   have H0:=za h0
   clear h0
   by_cases h1:n=0
   ·have hb1:((n:Int)==0)=true:=by simp [h1]
    have H1:=za h1
    clear h1
    by_cases h2:n'=0
    ·have hb2:((n':Int)==0)=true:=by simp [h2]
     have H2:=za h2
     clear h2
     go_enter Tryz.func8,Tryz.ntmps8
     go_wp2_with (go_at_call 25;refine (zbH s _ hs).mono ?_;rintro e w' ⟨rfl,rfl⟩)
     go_ret
     exact⟨zb (by rw [zd,Hv.out,H0.out,H1.out,H2.out];simp),((Ext.refl _).alloc _).alloc _⟩
    ·have hb2:((n':Int)==0)=false:=by simp [h2]
     go_enter Tryz.func8,Tryz.ntmps8
     go_wp2_with fail
     go_ret
     exact⟨zb (by rw [zd,Hv.out];simp [h2]),((Ext.refl _).alloc _).alloc _⟩
   ·have hb1:((n:Int)==0)=false:=by simp [h1]
    go_enter Tryz.func8,Tryz.ntmps8
    go_wp2_with fail
    go_ret
    exact⟨zb (by rw [zd,Hv.out];simp [h1]),((Ext.refl _).alloc _).alloc _⟩
  ·have hb:((a.al:Int)==0)=false:=by simp [h0]
   go_enter Tryz.func8,Tryz.ntmps8
   go_wp2_with fail
   go_ret
   exact⟨zb (by rw [zd,Hv.out];simp [h0]),((Ext.refl _).alloc _).alloc _⟩
 ·cases hb:zc a
  all_goals
   have Hb:=za hb
   clear hb
   go_enter Tryz.func8,Tryz.ntmps8
   go_wp2_with (go_at_call 24;refine (zM _ _ _ _ _ _ _ _ _ _ (HR.out _ ?_)).mono ?_;exact (Ext.refl _).alloc _;rw [Hb.out];rintro e w2 ⟨rfl,hext2⟩;have hbox:=zaU hext2)
   go_ret
   exact⟨zb (by rw [zd,Hb.out];simp),((Ext.refl _).alloc _).trans hext2⟩
def keyL (f:Nat→List UInt8) (x:Nat) (r:List Nat):List UInt8:=f x++r.flatMap fun y=>44 :: f y
section
variable {f:Nat→List UInt8} {B:Nat}
theorem keyL_snoc (x:Nat) (r:List Nat) (y:Nat):keyL f x (r++[y])=keyL f x r++(44 :: f y):=by
 unfold keyL
 rw [List.flatMap_append,List.append_assoc]
 simp
theorem zbB:∀ {u v s t:List UInt8},44∉u→44∉v→(s=[]∨∃ s',s=44 :: s')→(t=[]∨∃ t',t=44 :: t')→u++s=v++t→u=v∧s=t
 |[],[],_,_,_,_,_,_,h=>⟨rfl,h⟩
 |[],b :: v,s,t,_,hv,hs,_,h=>by
  exfalso
  rcases hs with rfl|⟨s',rfl⟩
  ·simp at h
  ·simp only [List.nil_append,List.cons_append,List.cons.injEq] at h
   exact hv (by simp [h.1])
 |a :: u,[],s,t,hu,_,_,ht,h=>by
  exfalso
  rcases ht with rfl|⟨t',rfl⟩
  ·simp at h
  ·simp only [List.nil_append,List.cons_append,List.cons.injEq] at h
   exact hu (by simp [h.1])
 |a :: u,b :: v,s,t,hu,hv,hs,ht,h=>by
  simp only [List.cons_append,List.cons.injEq] at h
  obtain⟨rfl,h⟩:=h
  obtain⟨h1,h2⟩:=zbB (fun h=>hu (by simp [h])) (fun h=>hv (by simp [h])) hs ht h
  exact⟨by rw [h1],h2⟩
theorem tail_form (r:List Nat):(r.flatMap fun y=>44 :: f y)=[]∨∃ s',(r.flatMap fun y=>44 :: f y)=44 :: s':=by
 cases r with
 |nil=>exact .inl rfl
 |cons y r=>exact .inr ⟨f y++r.flatMap fun y=>44 :: f y,by simp⟩
theorem keyL_inj (hf:∀ x,x<B→44∉f x)(hi:∀ x y,x<B→y<B→f x=f y→x=y):∀ {r t:List Nat} {x y:Nat},x<B→y<B→(∀ z∈r,z<B)→(∀ z∈t,z<B)→keyL f x r=keyL f y t→x=y∧r=t
 |r,t,x,y,hx,hy,hr,ht,h=>by
  unfold keyL at h
  obtain⟨h1,h2⟩:=zbB (hf x hx) (hf y hy) (tail_form r) (tail_form t) h
  refine⟨hi x y hx hy h1,?_⟩
  cases r with
  |nil=>cases t with
   |nil=>rfl
   |cons b t=>simp at h2
  |cons a r=>cases t with
   |nil=>simp at h2
   |cons b t =>
    rw [List.flatMap_cons,List.flatMap_cons,List.cons_append,List.cons_append,List.cons.injEq] at h2
    obtain⟨h3,h4⟩:=keyL_inj hf hi (r:=r) (t:=t) (hr a (by simp)) (ht b (by simp)) (fun z hz=>hr z (by simp [hz])) (fun z hz=>ht z (by simp [hz])) h2.2
    rw [h3,h4]
termination_by r=>r.length
end
theorem zbo {x:Nat}(h:x<100):(44:UInt8)∉Lib.decDigits x:=by
 intro hm
 by_cases h1:x<10
 ·rw [Lib.decDigits_one h1] at hm
  have:=congrArg UInt8.toNat (List.mem_singleton.1 hm)
  simp at this
  omega
 ·rw [Lib.decDigits_two h1 h] at hm
  rcases List.mem_cons.1 hm with e|e
  ·have:=congrArg UInt8.toNat e
   simp at this
   omega
  ·have:=congrArg UInt8.toNat (List.mem_singleton.1 e)
   simp at this
   omega
theorem dig_inj {x y:Nat}(hx:x<100)(hy:y<100)(h:Lib.decDigits x=Lib.decDigits y):x=y:=by
 by_cases h1:x<10<;>by_cases h2:y<10
 ·rw [Lib.decDigits_one h1,Lib.decDigits_one h2] at h
  have:=congrArg UInt8.toNat (List.cons.inj h).1
  simp at this
  omega
 ·rw [Lib.decDigits_one h1,Lib.decDigits_two h2 hy] at h
  have:=congrArg List.length h
  simp at this
 ·rw [Lib.decDigits_two h1 hx,Lib.decDigits_one h2] at h
  have:=congrArg List.length h
  simp at this
 ·rw [Lib.decDigits_two h1 hx,Lib.decDigits_two h2 hy] at h
  have e1:=congrArg UInt8.toNat (List.cons.inj h).1
  have e2:=congrArg UInt8.toNat (List.cons.inj (List.cons.inj h).2).1
  simp at e1 e2
  omega
theorem dig_len {x:Nat}(h:x<100):(Lib.decDigits x).length≤2:=by
 by_cases h1:x<10
 ·rw [Lib.decDigits_one h1];simp
 ·rw [Lib.decDigits_two h1 h];simp
theorem dig_digit {x:Nat}(h:x<100):∀ b∈Lib.decDigits x,48≤b.toNat∧b.toNat≤57:=by
 intro b hm
 by_cases h1:x<10
 ·rw [Lib.decDigits_one h1] at hm
  rw [List.mem_singleton.1 hm]
  simp
  omega
 ·rw [Lib.decDigits_two h1 h] at hm
  rcases List.mem_cons.1 hm with e|e
  ·rw [e];simp;omega
  ·rw [List.mem_singleton.1 e];simp;omega
theorem dig_nil {x:Nat}(h:x<100):Lib.decDigits x≠[]:=by
 by_cases h1:x<10
 ·rw [Lib.decDigits_one h1];simp
 ·rw [Lib.decDigits_two h1 h];simp
def rel (R:List Nat) (i j:Nat):Prop:=i<R.length∧(R.getD i 0).testBit j=true
def succ (es:List Edg) (i l:Int):Nat:=es.foldl (fun m e=>if e.fr=i∧e.le=l then m|||2 ^ e.ta.toNat else m) 0
theorem zax {a n k:Nat}:k∈zg a n↔k<n∧a.testBit k=true:=by simp [zg]
def zC (c:UInt8):List UInt8→List (List UInt8)
 |[]=>[[]]
 |b :: t=>if b=c then [] :: zC c t else match zC c t with
  |[]=>[[b]]
  |h :: r=>(b :: h) :: r
section
variable {c:UInt8}
theorem zah:∀ {u:List UInt8},c∉u→zC c u=[u]
 |[],_=>rfl
 |b :: t,h=>by
  have hb:¬ b=c:=fun e=>h (by simp [e])
  rw [zC,if_neg hb,zah (fun hc=>h (by simp [hc]))]
theorem zaK:∀ {u v:List UInt8},c∉u→zC c (u++c :: v)=u :: zC c v
 |[],v,_=>by rw [List.nil_append,zC,if_pos rfl]
 |b :: t,v,h=>by
  have hb:¬ b=c:=fun e=>h (by simp [e])
  rw [List.cons_append,zC,if_neg hb,zaK (fun hc=>h (by simp [hc]))]
theorem zbn:∀ {r:List (List UInt8)} {u:List UInt8},c∉u→(∀ x∈r,c∉x)→zC c (u++r.flatMap (c :: ·))=u :: r
 |[],u,h,_=>by rw [List.flatMap_nil,List.append_nil,zah h]
 |x :: r,u,h,hr=>by
  rw [List.flatMap_cons,List.cons_append,zaK h,zbn (hr x (by simp)) (fun y hy=>hr y (by simp [hy]))]
end
def zv:List Nat→List UInt8
 |[]=>[]
 |x :: r=>keyL Lib.decDigits x r
def zbR (b:Bool) (r:List Int):List UInt8:=(if b then 43 else 45) :: zv (r.map Int.toNat)
def alX (al:Nat):List UInt8:=if al=0 then [45] else (zg al 6).map fun l=>UInt8.ofNat (97+l)
def zO (a:Aut):List (List UInt8):=(a.next.zip a.acc).map fun p=>zbR p.2 p.1
def zV (a:Aut):List UInt8:=if zc a then alX a.al.toNat++(zO a).flatMap (32 :: ·) else []
theorem join_mem {r:List Nat}(hr:∀ x∈r,x<100):∀ b∈zv r,b=44∨48≤b.toNat∧b.toNat≤57:=by
 intro b hb
 cases r with
 |nil=>simp [zv] at hb
 |cons x r =>
  unfold zv keyL at hb
  rcases List.mem_append.1 hb with h|h
  ·exact .inr (dig_digit (hr x (by simp)) b h)
  ·obtain⟨y,hy,h⟩:=List.mem_flatMap.1 h
   rcases List.mem_cons.1 h with h|h
   ·exact .inl h
   ·exact .inr (dig_digit (hr y (by simp [hy])) b h)
theorem join_cut {x:Nat} {r:List Nat}(hx:x<100)(hr:∀ x∈r,x<100):zC 44 (zv (x :: r))=(x :: r).map Lib.decDigits:=by
 have e:zv (x :: r)=Lib.decDigits x++(r.map Lib.decDigits).flatMap (44 :: ·):=by
  show keyL _ _ _=_
  unfold keyL
  rw [List.flatMap_map]
 rw [e,zbn (zbo hx) (fun y hy=>by
  obtain⟨z,hz,rfl⟩:=List.mem_map.1 hy
  exact zbo (hr z hz))]
 rfl
theorem join_nil {r:List Nat}(hr:∀ x∈r,x<100)(h:zv r=[]):r=[]:=by
 cases r with
 |nil=>rfl
 |cons x r =>
  unfold zv keyL at h
  exact absurd (List.append_eq_nil_iff.1 h).1 (dig_nil (hr x (by simp)))
theorem join_inj {r t:List Nat}(hr:∀ x∈r,x<100)(ht:∀ x∈t,x<100)(h:zv r=zv t):r=t:=by
 cases r with
 |nil=>exact (join_nil ht h.symm).symm
 |cons x r=>cases t with
  |nil=>exact join_nil hr h
  |cons y t =>
   obtain⟨rfl,rfl⟩:=keyL_inj (B:=100) (fun x hx=>zbo hx) (fun x y hx hy=>dig_inj hx hy) (hr x (by simp)) (ht y (by simp)) (fun z hz=>hr z (by simp [hz])) (fun z hz=>ht z (by simp [hz])) h
   rfl
def RowS (r:List Int):Prop:=∀ q∈r,0≤q∧q<100
theorem RowS.nat {r:List Int}(h:RowS r):∀ x∈r.map Int.toNat,x<100:=fun x hx=>by
 obtain⟨q,hq,rfl⟩:=List.mem_map.1 hx
 have:=h q hq
 omega
theorem RowS.inj:∀ {r t:List Int},RowS r→RowS t→r.map Int.toNat=t.map Int.toNat→r=t
 |[],[],_,_,_=>rfl
 |[],_ :: _,_,_,h=>by simp at h
 |_ :: _,[],_,_,h=>by simp at h
 |x :: r,y :: t,hr,ht,h=>by
  rw [List.map_cons,List.map_cons,List.cons.injEq] at h
  have h1:=hr x (by simp)
  have h2:=ht y (by simp)
  rw [RowS.inj (fun q hq=>hr q (by simp [hq])) (fun q hq=>ht q (by simp [hq])) h.2,show x=y by omega]
theorem row_inj {b c:Bool} {r t:List Int}(hr:RowS r)(ht:RowS t)(h:zbR b r=zbR c t):b=c∧r=t:=by
 unfold zbR at h
 rw [List.cons.injEq] at h
 exact⟨by cases b<;>cases c<;>simp_all,hr.inj ht (join_inj hr.nat ht.nat h.2)⟩
theorem row_space {b:Bool} {r:List Int}(hr:RowS r):(32:UInt8)∉zbR b r:=by
 intro h
 rcases List.mem_cons.1 h with h|h
 ·cases b<;>simp at h
 ·rcases join_mem hr.nat _ h with h|h
  ·exact absurd h (by decide)
  ·exact absurd h.1 (by decide)
theorem al_space {al:Nat}:(32:UInt8)∉alX al:=by
 unfold alX
 split
 ·decide
 ·intro h
  obtain⟨l,hl,e⟩:=List.mem_map.1 h
  have h6:=(zax.1 hl).1
  have:=congrArg UInt8.toNat e
  simp at this
  omega
theorem al_ne {al:Nat}(h:al<64):alX al≠[]:=by
 have:∀ al<64,alX al≠[]:=by decide +kernel
 exact this al h
theorem al_inj {a b:Nat}(ha:a<64)(hb:b<64)(h:alX a=alX b):a=b:=by
 have:∀ a<64,∀ b<64,alX a=alX b→a=b:=by decide +kernel
 exact this a ha b hb h
theorem zip_inj {α β:Type}:∀ {a c:List α} {b d:List β},a.length=b.length→c.length=d.length→a.zip b=c.zip d→a=c∧b=d
 |[],[],[],[],_,_,_=>⟨rfl,rfl⟩
 |[],_ :: _,[],_ :: _,_,_,h=>by simp at h
 |_ :: _,[],_ :: _,[],_,_,h=>by simp at h
 |x :: a,y :: c,u :: b,v :: d,h1,h2,h=>by
  rw [List.zip_cons_cons,List.zip_cons_cons,List.cons.injEq,Prod.mk.injEq] at h
  obtain⟨e1,e2⟩:=zip_inj (by simpa using h1) (by simpa using h2) h.2
  exact⟨by rw [h.1.1,e1],by rw [h.1.2,e2]⟩
 |[],_,_ :: _,_,h,_,_=>by simp at h
 |_ :: _,_,[],_,h,_,_=>by simp at h
 |_,[],_,_ :: _,_,h,_=>by simp at h
 |_,_ :: _,_,[],_,h,_=>by simp at h
theorem map_inj {α β:Type} {f:α→β}:∀ {r t:List α},(∀ x∈r,∀ y∈t,f x=f y→x=y)→r.map f=t.map f→r=t
 |[],[],_,_=>rfl
 |[],_ :: _,_,h=>by simp at h
 |_ :: _,[],_,h=>by simp at h
 |x :: r,y :: t,hf,h=>by
  rw [List.map_cons,List.map_cons,List.cons.injEq] at h
  rw [hf x (by simp) y (by simp) h.1,map_inj (fun a ha b hb=>hf a (by simp [ha]) b (by simp [hb])) h.2]
theorem ze {a:Aut}(h:zc a=true):0≤a.al∧a.al.toNat<64∧a.next.length=a.acc.length∧a.next.length≤12∧1≤a.next.length∧∀ r∈a.next,RowS r∧r.length≤6:=by
 simp only [zc,Bool.and_eq_true,decide_eq_true_eq,List.all_eq_true,rowB] at h
 obtain⟨h1,h2,h3,h4⟩:=h
 refine⟨h1.1,by omega,h3.symm,h2.2,h2.1,fun r hr=>⟨fun q hq=>?_,?_⟩⟩
 ·have:=(h4 r hr).2 q hq
  omega
 ·have:=(h4 r hr).1
  have:=zh a.al.toNat 6
  omega
theorem txt_cut {a:Aut}(h:zc a=true):zC 32 (zV a)=alX a.al.toNat :: zO a:=by
 obtain⟨h0,h1,h2,h3,h4,h5⟩:=ze h
 unfold zV
 rw [if_pos h]
 refine zbn al_space (fun x hx=>?_)
 obtain⟨p,hp,rfl⟩:=List.mem_map.1 hx
 exact row_space (h5 p.1 (List.of_mem_zip hp).1).1
theorem txt_ne {a:Aut}(h:zc a=true):zV a≠[]:=by
 intro e
 unfold zV at e
 rw [if_pos h] at e
 exact al_ne (ze h).2.1 (List.append_eq_nil_iff.1 e).1
theorem txt_inj {a b:Aut}(ha:zc a=true)(hb:zc b=true)(h:zV a=zV b):a=b:=by
 obtain⟨a0,a1,a2,a3,a4,a5⟩:=ze ha
 obtain⟨b0,b1,b2,b3,b4,b5⟩:=ze hb
 have e:=txt_cut ha
 rw [h,txt_cut hb,List.cons.injEq] at e
 have e1:=al_inj b1 a1 e.1
 have e2:=map_inj (fun x hx y hy h=>by
  obtain⟨h1,h2⟩:=row_inj (b5 x.1 (List.of_mem_zip hx).1).1 (a5 y.1 (List.of_mem_zip hy).1).1 h
  exact Prod.ext h2 h1) e.2
 obtain⟨e3,e4⟩:=zip_inj b2 a2 e2
 cases a
 cases b
 simp only [Aut.mk.injEq]
 simp only at e1 e3 e4 a0 b0
 exact⟨by omega,e3.symm,e4.symm⟩
def zH:List UInt8:=[104,111,108,100,115,32]
def zW:List UInt8:=[102,97,105,108,115,32]
def zaF (x:ByteArray):List UInt8:=if x.toList.isEmpty then [45] else x.data.toList
def zba (hd:Bool) (a:Aut) (x:ByteArray):List UInt8:=if zd hd a x then (if hd then zH++zV a else zW++zaF x) else []
theorem none_eq {a:Aut}(h:zY a=true):a=⟨0,[],[]⟩:=by
 simp only [zY,Bool.and_eq_true,decide_eq_true_eq,List.length_eq_zero_iff] at h
 cases a
 simp only [Aut.mk.injEq]
 exact h
theorem zbE {x:ByteArray}(h:zbc x=true):x.data.toList≠[45]:=by
 intro e
 simp only [zbc,Bool.and_eq_true,List.all_eq_true] at h
 have:=h.2 45 (by rw [e];simp)
 simp [zaa] at this
theorem word_inj {x y:ByteArray}(hx:zbc x=true)(hy:zbc y=true)(h:zaF x=zaF y):x=y:=by
 unfold zaF at h
 rw [ByteArray.toList_eq,ByteArray.toList_eq] at h
 have key:x.data.toList=y.data.toList:=by
  cases hX:x.data.toList with
  |nil=>cases hY:y.data.toList with
   |nil=>rfl
   |cons b t =>
    rw [hX,hY] at h
    exact absurd (by simpa using h.symm:(b :: t)=[45]) (by rw [← hY];exact zbE hy)
  |cons b t=>cases hY:y.data.toList with
   |nil =>
    rw [hX,hY] at h
    exact absurd (by simpa using h:(b :: t)=[45]) (by rw [← hX];exact zbE hx)
   |cons c u=>rw [hX,hY] at h;simpa using h
 cases x
 cases y
 exact congrArg ByteArray.mk (Array.toList_inj.1 key)
theorem empty_eq {x y:ByteArray}(hx:x.toList.isEmpty=true)(hy:y.toList.isEmpty=true):x=y:=by
 rw [ByteArray.toList_eq,List.isEmpty_iff] at hx hy
 cases x
 cases y
 exact congrArg ByteArray.mk (Array.toList_inj.1 (hx.trans hy.symm))
theorem cert_inj {hd gd:Bool} {a b:Aut} {x y:ByteArray}(h1:zd hd a x=true)(h2:zd gd b y=true)(h:zba hd a x=zba gd b y):hd=gd∧a=b∧x=y:=by
 unfold zba at h
 rw [if_pos h1,if_pos h2] at h
 cases hd<;>cases gd
 ·simp only [zd,Bool.false_eq_true,if_false,Bool.and_eq_true] at h1 h2
  simp only [Bool.false_eq_true,if_false] at h
  exact⟨rfl,(none_eq h1.1).trans (none_eq h2.1).symm,word_inj h1.2 h2.2 (List.append_cancel_left h)⟩
 ·simp [zH,zW] at h
 ·simp [zH,zW] at h
 ·simp only [zd,if_true,Bool.and_eq_true] at h1 h2
  simp only [if_true] at h
  exact⟨rfl,txt_inj h1.1 h2.1 (List.append_cancel_left h),empty_eq h1.2 h2.2⟩
theorem cert_ne {hd:Bool} {a:Aut} {x:ByteArray}(h:zd hd a x=true):zba hd a x≠[]:=by
 unfold zba
 rw [if_pos h]
 cases hd<;>simp [zH,zW]
theorem zbs (c:UInt8):∀ s:List UInt8,(c∉s∧Lib.index s [c] = -1)∨∃ u v,s=u++c :: v∧c∉u∧Lib.index s [c]=u.length:=by
 intro s
 induction s with
 |nil=>exact .inl ⟨by simp,by rw [Lib.index_one];rfl⟩
 |cons b t ih =>
  by_cases hb:b=c
  ·subst hb
   refine .inr ⟨[],t,rfl,by simp,?_⟩
   rw [Lib.index_one]
   simp [Lib.indexByte]
  ·rw [Lib.index_one] at ih ⊢
   rcases ih with ⟨h1,h2⟩|⟨u,v,h1,h2,h3⟩
   ·refine .inl ⟨?_,?_⟩
    ·intro h
     rcases List.mem_cons.1 h with h|h
     ·exact hb h.symm
     ·exact h1 h
    ·simp [Lib.indexByte,hb,h2]
   ·refine .inr ⟨b :: u,v,by rw [h1];rfl,?_,?_⟩
    ·intro h
     rcases List.mem_cons.1 h with h|h
     ·exact hb h.symm
     ·exact h2 h
    ·have h4:¬ ((u.length:Int) = -1):=by omega
     simp [Lib.indexByte,hb,h3]
theorem split_cut (c:UInt8):∀ (k:Nat) (s:List UInt8),s.length≤k→Lib.split s [c]=zC c s:=by
 intro k
 induction k with
 |zero =>
  intro s hs
  obtain rfl:s=[]:=List.eq_nil_of_length_eq_zero (by omega)
  rcases zbs c [] with ⟨-,h⟩|⟨u,v,h,-⟩
  ·unfold Lib.split
   rw [Lib.count_miss h]
   rfl
  ·simp at h
 |succ k ih =>
  intro s hs
  rcases zbs c s with ⟨h1,h2⟩|⟨u,v,rfl,h1,h2⟩
  ·unfold Lib.split
   rw [Lib.count_miss h2,zah h1]
   rfl
  ·have hd:(u++c :: v).drop (u.length+[c].length)=v:=by simp
   unfold Lib.split
   rw [Lib.count_hit (by simp) h2,hd,Nat.add_comm,Lib.splitK,h2,if_neg (by simp),zaK h1]
   have hv:v.length≤k:=by simp at hs;omega
   have e:=ih v hv
   unfold Lib.split at e
   rw [Int.toNat_natCast,hd,e,Nat.add_zero,List.take_left]
theorem split_bytes (c:UInt8) (s:ByteArray):(Lib.splitB ⟨#[c]⟩ 0 (Lib.countB s ⟨#[c]⟩) s).map (fun x=>x.data.toList)=zC c s.data.toList:=by
 rw [Lib.splitB_data]
 exact split_cut c _ s.data.toList (Nat.le_refl _)
section
variable {P:Program} {ops:Array Oper} {Q:Exit→Act→World→Prop} {md:Region.Mode} {S:Array Bool→World→Prop}
def wpAnyL (P:Program) (md:Region.Mode) (ops:Array Oper) (Q:Exit→Act→World→Prop) (S:Array Bool→World→Prop):Nat→Array Bool→Act→World→Prop
 |0,listed,a,w=>Region.ready md ops listed=[]∧Q .normal a w
 |fuel+1,listed,a,w =>
  (Region.ready md ops listed=[]→Q .normal a w) ∧
  ∀ i∈Region.ready md ops listed,wpOp P ops Q i (fun a' w'=>S (listed.setIfInBounds i true) w'∧wpAnyL P md ops Q S fuel (listed.setIfInBounds i true) a' w') a w
theorem zbX:∀ (fuel:Nat) (listed:Array Bool) (a:Act) (w:World),wpAnyL P md ops Q S fuel listed a w→wpAny P md ops Q fuel listed a w
 |0,_,_,_,h=>h
 |fuel+1,_,_,_,h=>⟨h.1,fun i hi=>wpOp_mono (fun a' w' h'=>zbX fuel _ a' w' h'.2) (h.2 i hi)⟩
theorem wpAnyL_first {i:Nat} {oi:Oper} {v:Value} {Si:World→Prop} {G:Array Bool→Prop}(hi:ops[i]?=some oi)(hsel:∀ (j:Nat) (o:Oper) cs b,ops[j]?=some o→o.op≠.select cs b)
  (hQ:∀ c a w,Q (.panic c) (a.put oi.dst v) w→Q (.panic c) a w)
  (hG:∀ listed j,j∈Region.ready md ops listed→G listed→G (listed.setIfInBounds j true))
  (hSi:∀ listed w,G listed→listed.getD i true=false→S listed w→Si w)
  (hup:∀ listed w,S listed w→S (listed.setIfInBounds i true) w) (hdn:∀ listed w,listed.getD i true=false→S (listed.setIfInBounds i true) w→S listed w) :
  ∀ (fuel:Nat) (listed:Array Bool) (a:Act) (w:World),G listed →
   (∀ j oj,ops[j]?=some oj→j≠i→listed.getD j true=false→(∀ e∈oj.after,Region.binds md e=true→e.on≠i)→oi.apart ops oj=true) →
   i∈Region.ready md ops listed→YieldsIf P ops Si oi v a→S listed w →
   wpAnyL P md ops Q S fuel (listed.setIfInBounds i true) (a.put oi.dst v) w→wpAnyL P md ops Q S (fuel+1) listed a w:=by
 intro fuel
 induction fuel with
 |zero =>
  intro listed a w hg _ hr hy hS H
  refine⟨fun h=>(by rw [h] at hr;cases hr),fun j hj=>?_⟩
  by_cases hji:j=i
  ·subst hji;exact hy.wpOp hi (hSi _ _ hg (mem_ready.1 hr).1 hS) ⟨hup _ _ hS,H⟩
  ·have:=ready_mono hj hji
   rw [H.1] at this
   cases this
 |succ fuel ih =>
  intro listed a w hg hfree hr hy hS H
  refine⟨fun h=>(by rw [h] at hr;cases hr),fun j hj=>?_⟩
  by_cases hji:j=i
  ·subst hji;exact hy.wpOp hi (hSi _ _ hg (mem_ready.1 hr).1 hS) ⟨hup _ _ hS,H⟩
  ·have h1:=H.2 j (ready_mono hj hji)
   obtain⟨hjun,oj,hoj,hall⟩:=mem_ready.1 hj
   have hnot:∀ e∈oj.after,Region.binds md e=true→e.on≠i:=fun e he hb heq=>by
    have h1:=hall e he hb
    have h0:=(mem_ready.1 hr).1
    rw [heq] at h1
    rcases Nat.lt_or_ge i listed.size with h' | h'
    ·simp [h'] at h0 h1;rw [h0] at h1;cases h1
    ·simp [Array.getElem?_eq_none h'] at h1
   have h2:=wpOp_putIf hoj (hfree j oj hoj hji hjun hnot) (fun cs b=>hsel i oi cs b hi) (fun cs b=>hsel j oj cs b hoj) hQ hy h1
   have hfree':∀ k ok,ops[k]?=some ok→k≠i→(listed.setIfInBounds j true).getD k true=false →
     (∀ e∈ok.after,Region.binds md e=true→e.on≠i)→oi.apart ops ok=true:=fun k ok hk hki hun hno=>by
    refine hfree k ok hk hki ?_ hno
    by_cases hjk:j=k
    ·subst hjk;exact hjun
    ·rw [getD_set_ne true hjk] at hun;exact hun
   have hiun:(listed.setIfInBounds j true).getD i true=false:=by
    rw [getD_set_ne true hji];exact (mem_ready.1 hr).1
   refine wpOp_mono (fun a' w' h3=>?_) h2
   have h4:S (listed.setIfInBounds j true) w':=hdn _ _ hiun (by rw [Array.setIfInBounds_comm _ _ hji];exact h3.2.1)
   refine⟨h4,ih (listed.setIfInBounds j true) a' w' (hG _ _ hj hg) hfree' (ready_mono hr (Ne.symm hji)) h3.1 h4 ?_⟩
   rw [Array.setIfInBounds_comm _ _ hji]
   exact h3.2.2
end
def Clo (l:List Oper) (listed:Array Bool):Prop:=∀ j,listed.getD j false=true→∀ o,l[j]?=some o→∀ e∈o.after,Region.binds .any e=true→listed.getD e.on false=true
def below (l:List Oper):Nat→Nat→Nat→Bool
 |0,_,_=>false
 |f+1,t,i=>match l[t]? with
  |some o=>o.after.any fun e=>Region.binds .any e&&(e.on==i || below l f e.on i)
  |none=>false
theorem zbL {l:List Oper} {listed:Array Bool}(hc:Clo l listed):∀ (f t i:Nat),below l f t i=true→listed.getD t false=true→listed.getD i false=true
 |0,_,_,h,_=>by simp [below] at h
 |f+1,t,i,h,ht=>by
  unfold below at h
  cases ho:l[t]? with
  |none=>simp [ho] at h
  |some o =>
   simp only [ho] at h
   obtain⟨e,he,hb⟩:=Array.any_eq_true'.1 h
   simp only [Bool.and_eq_true,Bool.or_eq_true,beq_iff_eq] at hb
   have h1:=hc t ht o ho e he hb.1
   rcases hb.2 with h2|h2
   ·rw [← h2];exact h1
   ·exact zbL hc f e.on i h2 h1
theorem zR {l:List Oper} {listed:Array Bool} {j:Nat}(hj:j∈Region.ready .any l.toArray listed)(h:Clo l listed):Clo l (listed.setIfInBounds j true):=by
 intro k hk o ho e he hb
 by_cases hkj:j=k
 ·subst hkj
  obtain⟨_,o',ho',hall⟩:=mem_ready.1 hj
  have:o'=o:=by
   have h1:l[j]?=some o':=by simpa using ho'
   rw [ho] at h1
   exact (Option.some.inj h1).symm
  subst this
  exact getD_set_true (hall e he hb)
 ·rw [getD_set_ne false hkj] at hk
  exact getD_set_true (h k hk o ho e he hb)
section
variable {P:Program} {l:List Oper} {Q:Exit→Act→World→Prop} {S:World→Prop} {T:List Nat}
def zbC (T:List Nat) (listed:Array Bool):Prop:=∃ t∈T,listed.getD t false=true
theorem clo_start (l:List Oper):Clo l (Array.replicate l.length false):=by
 intro j hj
 exfalso
 rcases Nat.lt_or_ge j l.length with h|h
 ·simp [h] at hj
 ·simp [Nat.not_lt.2 h] at hj
end
theorem wp_push {P:Program} (wb w:World) {o:Oper} {a:Act} {K:Act→World→Prop} {Q:Exit→Act→World→Prop} (s x:Operand) (t:TypeId)
  (ho:o.op=.call { callee:=.builtin .append,args:=#[s,x],argTypes:=#[t,t] })
  (e:TypeId) (z:Value) (size bytes:Nat) (ht:P.underlying t=some (.slice e)) (hi:(P.info? e).map (fun i=>(i.zero,i.size,i.bytes))=some (some z,size,bytes)) (hzs:z.cells.size=size) (hsz:0<size)
  (v:Value) (n:Nat) (xs:List Value) (us:Array Value) (e':TypeId) (hs:a.eval s=v) (hx:a.eval x=.slice (some ⟨w.heap.size,0,none⟩) 1 1)
  (zcq:wb.heap.size≤w.heap.size) (zco:w.ownsRow wb.heap.size e size v n xs) (hus:us.size=size) (h1:∀ u∈us.toList,u.oneCell'=true)
  (h63:n+1≤maxLen) (hbytes:(n+1)*bytes≤140737488355328)
  (h:∀ g cap w',w'.ownsRow wb.heap.size e size (.slice (some ⟨g,0,none⟩) (n+1) cap) (n+1) (xs++us.toList)→w.grownBy w' v.ownBlock→(v.ownBlock=some g∨g=w.heap.size+1)→g<w'.heap.size→K (a.put o.dst (.slice (some ⟨g,0,none⟩) (n+1) cap)) w') :
  o.wp P a (w.alloc (.cells us e')) K Q:=by
 obtain⟨i,hi0,hz0,hz1,hz2⟩:=info_parts hi
 refine wp_append_lies (w.alloc (.cells us e')) s x t ho wb.heap.size e i z size bytes ht hi0 hz0 hz1 hz2 hzs hsz v n xs hs (zco.alloc _) ⟨w.heap.size,0,none⟩ 1 1 us.toList hx (by simpa using hus) ?_ h1 (by omega) h63 hbytes (by simp;omega) (w.heap.size+1) (by simp) ?_
 ·intro j u hu
  rw [zK,Nat.zero_add,(Blk.new w e' us).cell]
  simpa using hu
 ·intro g cap w' hown' hg hat hlt
  have hg':w.grownBy w' v.ownBlock:=⟨hg.os,hg.tape,hg.output,Nat.le_trans (by simp) hg.size,fun k hk hne=>(hg.block k (by simp;omega) hne).trans (Below.heap_alloc w _ k hk)⟩
  exact h g cap w' hown' hg' hat hlt
theorem zam {P:Program} (wb w:World) {ops:Array Oper} {rest:List Oper} {o:Oper} {a:Act} {Q:Exit→Act→World→Prop}(hgd:o.guard=none) (s x:Operand) (t:TypeId)
  (ho:o.op=.call { callee:=.builtin .append,args:=#[s,x],argTypes:=#[t,t] })
  (e:TypeId) (z:Value) (size bytes:Nat) (ht:P.underlying t=some (.slice e)) (hi:(P.info? e).map (fun i=>(i.zero,i.size,i.bytes))=some (some z,size,bytes)) (hzs:z.cells.size=size) (hsz:0<size)
  (v:Value) (n:Nat) (xs:List Value) (us:Array Value) (e':TypeId) (hs:a.eval s=v) (hx:a.eval x=.slice (some ⟨w.heap.size,0,none⟩) 1 1)
  (zcq:wb.heap.size≤w.heap.size) (zco:w.ownsRow wb.heap.size e size v n xs) (hus:us.size=size) (h1:∀ u∈us.toList,u.oneCell'=true)
  (h63:n+1≤maxLen) (hbytes:(n+1)*bytes≤140737488355328)
  (h:∀ g cap w',w'.ownsRow wb.heap.size e size (.slice (some ⟨g,0,none⟩) (n+1) cap) (n+1) (xs++us.toList)→w.grownBy w' v.ownBlock→(v.ownBlock=some g∨g=w.heap.size+1)→g<w'.heap.size→wpList P ops Q rest (a.put o.dst (.slice (some ⟨g,0,none⟩) (n+1) cap)) w') :
  wpList P ops Q (o :: rest) a (w.alloc (.cells us e')):=
 wpList_plain hgd fun _ hK=>wp_push wb w s x t ho e z size bytes ht hi hzs hsz v n xs us e' hs hx zcq zco hus h1 h63 hbytes fun g cap w' h2 h3 h4 h5=>hK _ _ (h g cap w' h2 h3 h4 h5)
def zbj (l:List ByteArray):List Value:=l.map Value.string
theorem Reads.nat {w:World} {lo hi n k:Nat} {A:Option Addr} {l:List Nat}(h:Reads w lo hi 1 A n (zbg l))(hk:k<n):∃ ad x,A=some ad∧lo≤ad.block∧ad.block<hi∧Hid (l[k]?=some x)∧w.cell? (ad.add k)=some (.int .i64 (x:Nat)):=by
 have e:zbg l=ints (l.map fun n:Nat=>(n:Int)):=by simp [zbg,ints]
 rw [e] at h
 obtain⟨ad,x,ha,hl,hh,hx,hc⟩:=h.int hk
 have hx':=hx.out
 rw [List.getElem?_map] at hx'
 cases hq:l[k]? with
 |none=>rw [hq] at hx';simp at hx'
 |some q =>
  rw [hq] at hx'
  simp at hx'
  exact⟨ad,q,ha,hl,hh,rfl,by rw [hc,hx']⟩
theorem conv_one (w:World) (x:Int):(convert 22 9 (.slice (some ⟨w.heap.size,0,none⟩) 1 1)).run Tryz.prog (w.alloc (.cells #[.int .u8 x] 5))=.ok (.string (strOfNums [x])) (w.alloc (.cells #[.int .u8 x] 5)):=
 run_convert_bytes_arg _ _ 5 Tryz.underlying22 Tryz.underlying5 w.heap.size 0 1 1 [x] rfl (fun i hi=>by
  obtain rfl:i=0:=by omega
  rw [(Blk.new w 5 #[.int .u8 x]).cell];rfl) _ Tryz.underlying9
theorem size_one (x:Int):(strOfNums [x]).size=1:=by simp [strOfNums];rfl
def RetNumS (w:World) (e:Ending) (w':World):Prop:=∃ (n:Int) (ok:Bool),e=.returned (.tuple #[.int .i64 n,.bool ok])∧w=w'
theorem spec_l19Num {s:ByteArray} {w:World}(hs:s.size≤1000000) :
  Calls Tryz.prog 120 #[.string s] w (RetNumS w):=by
 by_cases h0:s.size=0
 ·have h0':¬ 0<s.size:=by omega
  go_enter Tryz.func120,Tryz.ntmps120
  go_wp2
  go_ret2
  exact⟨0,false,rfl,rfl⟩
 have h0':0<s.size:=by omega
 cases hm:((s[0].toNat:Int)==45)
 ·have hq0:0<s.size:=h0'
  by_cases z0:s.size=0
  ·go_enter Tryz.func120,Tryz.ntmps120
   go_wp2
   go_ret2
   exact⟨0,false,rfl,rfl⟩
  have z1:0<s.size:=by omega
  have z1':((s.size:Int)==0)=false:=by rw [beq_eq_false_iff_ne];omega
  by_cases z2:17<s.size
  ·have z2':(17:Int)<(s.size:Int):=by omega
   go_enter Tryz.func120,Tryz.ntmps120
   go_wp2
   go_ret2
   exact⟨0,false,rfl,rfl⟩
  have z2':(s.size:Int)≤17:=by omega
  cases z3:((s[0].toNat:Int)==48)
  ·go_enter Tryz.func120,Tryz.ntmps120
   go_wp2_with fail
   go_loop [5,6] (fun v i=>∃ (k:Nat) (n:Int),k≤s.size∧i=.int .i64 k∧v=.int .i64 n) (fun _ i=>s.size - (intOf i).toNat)
   case atStart=>exact⟨0,0,Nat.zero_le _,rfl,rfl⟩
   case round =>
    obtain⟨k,n,hk,rfl,rfl⟩:=hrel
    by_cases hlt:k<s.size
    ·have hb:=zT s k hlt
     by_cases c0:(s[k].toNat:Int)<48
     ·go_wp2_with fail
      go_ret2
      exact⟨0,false,rfl,rfl⟩
     ·by_cases c1:57<(s[k].toNat:Int)
      ·go_wp2_with fail
       go_ret2
       exact⟨0,false,rfl,rfl⟩
      ·go_wp2_with fail
       go_round
       case rel=>exact⟨k+1,_,by omega,by go_num,rfl⟩
       case measure=>simp [intOf];omega
    ·obtain rfl:k=s.size:=by omega
     go_wp2_with fail
     go_ret2
     exact⟨_,true,rfl,rfl⟩
  ·by_cases z4:1<s.size
   ·have z4':(1:Int)<(s.size:Int):=by omega
    go_enter Tryz.func120,Tryz.ntmps120
    go_wp2
    go_ret2
    exact⟨0,false,rfl,rfl⟩
   ·have z4':(s.size:Int)≤1:=by omega
    go_enter Tryz.func120,Tryz.ntmps120
    go_wp2_with fail
    go_loop [5,6] (fun v i=>∃ (k:Nat) (n:Int),k≤s.size∧i=.int .i64 k∧v=.int .i64 n) (fun _ i=>s.size - (intOf i).toNat)
    case atStart=>exact⟨0,0,Nat.zero_le _,rfl,rfl⟩
    case round =>
     obtain⟨k,n,hk,rfl,rfl⟩:=hrel
     by_cases hlt:k<s.size
     ·have hb:=zT s k hlt
      by_cases c0:(s[k].toNat:Int)<48
      ·go_wp2_with fail
       go_ret2
       exact⟨0,false,rfl,rfl⟩
      ·by_cases c1:57<(s[k].toNat:Int)
       ·go_wp2_with fail
        go_ret2
        exact⟨0,false,rfl,rfl⟩
       ·go_wp2_with fail
        go_round
        case rel=>exact⟨k+1,_,by omega,by go_num,rfl⟩
        case measure=>simp [intOf];omega
     ·obtain rfl:k=s.size:=by omega
      go_wp2_with fail
      go_ret2
      exact⟨_,true,rfl,rfl⟩
 ·obtain⟨y,hy⟩:∃ y,s.extract 1 s.size=y:=⟨_,rfl⟩
  have hyl:y.size=s.size - 1:=by rw [← hy,ByteArray.size_extract];omega
  have hyb:y.size≤1000000:=by omega
  have Hyl:=za hyl
  clear hyl
  have h01:(1:Int)≤(s.size:Int):=by omega
  by_cases z0:y.size=0
  ·go_enter Tryz.func120,Tryz.ntmps120
   go_wp2
   go_ret2
   exact⟨0,false,rfl,rfl⟩
  have z1:0<y.size:=by omega
  have z1':((y.size:Int)==0)=false:=by rw [beq_eq_false_iff_ne];omega
  by_cases z2:17<y.size
  ·have z2':(17:Int)<(y.size:Int):=by omega
   go_enter Tryz.func120,Tryz.ntmps120
   go_wp2
   go_ret2
   exact⟨0,false,rfl,rfl⟩
  have z2':(y.size:Int)≤17:=by omega
  cases z3:((y[0].toNat:Int)==48)
  ·go_enter Tryz.func120,Tryz.ntmps120
   go_wp2_with fail
   go_loop [5,6] (fun v i=>∃ (k:Nat) (n:Int),k≤y.size∧i=.int .i64 k∧v=.int .i64 n) (fun _ i=>y.size - (intOf i).toNat)
   case atStart=>exact⟨0,0,Nat.zero_le _,rfl,rfl⟩
   case round =>
    obtain⟨k,n,hk,rfl,rfl⟩:=hrel
    by_cases hlt:k<y.size
    ·have hb:=zT y k hlt
     by_cases c0:(y[k].toNat:Int)<48
     ·go_wp2_with fail
      go_ret2
      exact⟨0,false,rfl,rfl⟩
     ·by_cases c1:57<(y[k].toNat:Int)
      ·go_wp2_with fail
       go_ret2
       exact⟨0,false,rfl,rfl⟩
      ·go_wp2_with fail
       go_round
       case rel=>exact⟨k+1,_,by omega,by go_num,rfl⟩
       case measure=>simp [intOf];omega
    ·obtain rfl:k=y.size:=by omega
     go_wp2_with fail
     go_ret2
     exact⟨_,true,rfl,rfl⟩
  ·by_cases z4:1<y.size
   ·have z4':(1:Int)<(y.size:Int):=by omega
    go_enter Tryz.func120,Tryz.ntmps120
    go_wp2
    go_ret2
    exact⟨0,false,rfl,rfl⟩
   ·have z4':(y.size:Int)≤1:=by omega
    go_enter Tryz.func120,Tryz.ntmps120
    go_wp2
    go_ret2
    exact⟨0,false,rfl,rfl⟩
theorem zaM:(Tryz.prog.info? 9).map (fun i=>(i.zero,i.size,i.bytes))=some (some (.string ⟨#[]⟩),1,16):=by kernel_rfl
theorem zaJ (x:ByteArray):∀ u∈(#[Value.string x]:Array Value).toList,u.oneCell'=true:=by simp [Value.oneCell']
def RetCut (c:UInt8) (s:ByteArray) (w:World) (e:Ending) (w':World):Prop:=∃ (A:Option Addr) (n d:Nat) (l:List ByteArray),e=.returned (.slice A n d)∧n=l.length∧0<n∧w'.ownsRow w.heap.size 9 1 (.slice A n d) n (zbj l)∧n≤s.size+1∧Hid (l.map (fun x=>x.data.toList)=zC c s.data.toList)∧Ext w w'
theorem zE {s:ByteArray} {m k:Nat}:(s.extract m k).data.toList=(s.data.toList.drop m).take (k - m):=by
 rw [ByteArray.data_extract,Array.toList_extract]
theorem cut_step {c:UInt8} {s:ByteArray} {l:List ByteArray} {m k:Nat}(hm:m≤k)(hk:k<s.size)(hc:s[k]=c)(hn:∀ j,m≤j→j<k→s.data.toList[j]?≠some c)
  (h:l.map (fun x=>x.data.toList)++zC c (s.data.toList.drop m)=zC c s.data.toList):(l++[s.extract m k]).map (fun x=>x.data.toList)++zC c (s.data.toList.drop (k+1))=zC c s.data.toList:=by
 have hb:=zQ s k hk
 rw [hc] at hb
 have e:s.data.toList.drop m=(s.extract m k).data.toList++c :: s.data.toList.drop (k+1):=by
  rw [zE]
  have e1:(s.data.toList.drop m).drop (k - m)=c :: s.data.toList.drop (k+1):=by
   rw [List.drop_drop,show m+(k - m)=k by omega]
   rw [List.drop_eq_getElem?_toList_append,hb]
   rfl
  rw [← e1,List.take_append_drop]
 have hni:c∉(s.extract m k).data.toList:=by
  rw [zE]
  intro hmem
  obtain⟨j,hj⟩:=List.mem_iff_getElem?.1 hmem
  rw [List.getElem?_take] at hj
  split at hj
  ·rw [List.getElem?_drop] at hj
   exact hn (m+j) (by omega) (by omega) hj
  ·cases hj
 rw [← h,e,zaK hni,List.map_append,List.append_assoc]
 rfl
theorem cut_last {c:UInt8} {s:ByteArray} {l:List ByteArray} {m k:Nat}(hk:k=s.size)(hm:m≤k)(hn:∀ j,m≤j→j<k→s.data.toList[j]?≠some c)
  (h:l.map (fun x=>x.data.toList)++zC c (s.data.toList.drop m)=zC c s.data.toList):(l++[s.extract m k]).map (fun x=>x.data.toList)=zC c s.data.toList:=by
 subst hk
 have e:s.data.toList.drop m=(s.extract m s.size).data.toList:=by
  rw [zE,List.take_of_length_le]
  rw [List.length_drop,Array.length_toList]
  exact Nat.le_refl _
 have hni:c∉s.data.toList.drop m:=by
  intro hmem
  obtain⟨j,hj⟩:=List.mem_iff_getElem?.1 hmem
  rw [List.getElem?_drop] at hj
  have:m+j<s.data.toList.length:=(List.getElem?_eq_some_iff.1 hj).1
  rw [Array.length_toList] at this
  exact hn (m+j) (by omega) this hj
 rw [← h,zah hni,List.map_append,e]
 rfl
theorem cut_miss {c:UInt8} {s:ByteArray} {m k:Nat}(hk:k<s.size)(hc:((s[k].toNat:Int)==(c.toNat:Int))=false)(hn:∀ j,m≤j→j<k→s.data.toList[j]?≠some c):∀ j,m≤j→j<k+1→s.data.toList[j]?≠some c:=by
 intro j h1 h2 h3
 by_cases hj:j=k
 ·subst hj
  rw [zQ s j hk] at h3
  rw [Option.some.inj h3] at hc
  simp at hc
 ·exact hn j h1 (by omega) h3
theorem cut_hit {c b:UInt8}(h:((b.toNat:Int)==(c.toNat:Int))=true):b=c:=by
 have h1:b.toNat=c.toNat:=Int.ofNat.inj (eq_of_beq h)
 exact UInt8.toNat_inj.1 h1
theorem yP01a1 {P:Prop}(h:P:=by
 have heq:((k:Int)==(s.size:Int))=true:=by simp [he]
 have He:=za he
 have hlast:=za (cut_last he hm hCut.out.2 hCut.out.1)
 clear he
 go_wp2_with (at_builtin;refine zx w wr rfl _ _ _ rfl 9 _ 1 16 Tryz.underlying61 zaM rfl (by decide) u5 _ _ _ _ rfl rfl zcq zco rfl (zaJ _) (by unfold maxLen;omega) (by omega) ?_;intro v' w1 hext1 zcs hg1 hat1)
 go_roundw
 case rel=>exact⟨k+1,k+1,l++[s.extract m k],by omega,by go_num,by omega,by go_num,by simp;omega,by simpa [zbj] using zcs,za (fun _=>⟨by simp,hlast.out⟩),za (fun hh=>absurd hh (by have:=He.out;omega)),by assumption⟩
 case measure=>simp [intOf];omega
 ):P:=h
theorem yP01a2 {P:Prop}(h:P:=by
 go_wp2_with (at_builtin;refine zx w wr rfl _ _ _ rfl 9 _ 1 16 Tryz.underlying61 zaM rfl (by decide) u5 _ _ _ _ rfl rfl zcq zco rfl (zaJ _) (by unfold maxLen;omega) (by omega) ?_;intro v' w1 hext1 zcs hg1 hat1)
 go_roundw
 case rel=>exact⟨k+1,k+1,l++[s.extract m k],by omega,by go_num,by omega,by go_num,by simp;omega,by simpa [zbj] using zcs,za (fun hh=>absurd hh (by omega)),za (fun _=>⟨hstep.out,fun j h1 h2=>by omega⟩),by assumption⟩
 case measure=>simp [intOf];omega
 ):P:=h
theorem yP01a3 {P:Prop}(h:P:=by
 go_wp2_with fail
 go_roundw
 case rel=>exact⟨k+1,m,l,by omega,by go_num,by omega,rfl,by omega,zco,za (fun hh=>absurd hh (by omega)),za (fun _=>⟨hCut.out.1,hmiss.out⟩),zcq⟩
 case measure=>simp [intOf];omega
 ):P:=h
theorem yP01a5 {P:Prop}(h:P:=by
 obtain rfl:k=s.size+1:=by omega
 obtain⟨A,c,rfl⟩:=zr zco
 go_wp2_with fail
 go_ret
 exact⟨A,_,c,l,rfl,rfl,(zcr.out (by omega)).1,zco,hl,za (zcr.out (by omega)).2,zcq⟩
 ):P:=h
theorem zcl {s:ByteArray} {w:World}(hs:s.size≤2000000) :
  Calls Tryz.prog 78 #[.string s,.int .u8 44] w (RetCut 44 s w):=by
 go_enter Tryz.func78,Tryz.ntmps78
 go_wp2_with fail
 go_loopw [5,6,7] (fun v f i wr=>∃ (k m:Nat) (l:List ByteArray),k≤s.size+1∧i=.int .i64 k∧m≤k∧f=.int .i64 m∧l.length≤k∧wr.ownsRow w.heap.size 9 1 v l.length (zbj l)∧Hid (s.size<k→0<l.length∧l.map (fun x=>x.data.toList)=zC 44 s.data.toList)∧Hid (k≤s.size→l.map (fun x=>x.data.toList)++zC 44 (s.data.toList.drop m)=zC 44 s.data.toList∧∀ j,m≤j→j<k→s.data.toList[j]?≠some 44)∧Ext w wr) (fun _ _ i _=>s.size+1 - (intOf i).toNat)
 case atStart=>exact⟨0,0,[],Nat.zero_le _,rfl,Nat.le_refl _,rfl,Nat.le_refl _,World.ownsRow_lit w #[] 0 (Nat.le_refl _) (by unfold maxLen;omega) rfl,za (fun hh=>absurd hh (by omega)),za (fun _=>⟨rfl,fun j h1 h2=>by omega⟩),(Ext.refl _).alloc _⟩
 case round =>
  obtain⟨k,m,l,hk,rfl,hm,rfl,hl,zco,zcr,hcut,zcq⟩:=hrel
  by_cases hle:k≤s.size
  ·have hle':(k:Int)≤(s.size:Int):=by omega
   have hm':(m:Int)≤(k:Int):=by omega
   have hCut:=za (hcut.out hle)
   clear hcut zcr
   by_cases he:k=s.size
   ·exact yP01a1
   ·have heq:((k:Int)==(s.size:Int))=false:=by rw [beq_eq_false_iff_ne];omega
    have hlt:k<s.size:=by omega
    have hb:=zT s k hlt
    cases hc:((s[k].toNat:Int)==44)
    ·have hmiss:=za (cut_miss (c:=44) hlt hc hCut.out.2)
     exact yP01a3
    ·have hstep:=za (cut_step (c:=44) hm hlt (cut_hit hc) hCut.out.2 hCut.out.1)
     exact yP01a2
  ·exact yP01a5
theorem zck {s:ByteArray} {w:World}(hs:s.size≤2000000) :
  Calls Tryz.prog 78 #[.string s,.int .u8 32] w (RetCut 32 s w):=by
 go_enter Tryz.func78,Tryz.ntmps78
 go_wp2_with fail
 go_loopw [5,6,7] (fun v f i wr=>∃ (k m:Nat) (l:List ByteArray),k≤s.size+1∧i=.int .i64 k∧m≤k∧f=.int .i64 m∧l.length≤k∧wr.ownsRow w.heap.size 9 1 v l.length (zbj l)∧Hid (s.size<k→0<l.length∧l.map (fun x=>x.data.toList)=zC 32 s.data.toList)∧Hid (k≤s.size→l.map (fun x=>x.data.toList)++zC 32 (s.data.toList.drop m)=zC 32 s.data.toList∧∀ j,m≤j→j<k→s.data.toList[j]?≠some 32)∧Ext w wr) (fun _ _ i _=>s.size+1 - (intOf i).toNat)
 case atStart=>exact⟨0,0,[],Nat.zero_le _,rfl,Nat.le_refl _,rfl,Nat.le_refl _,World.ownsRow_lit w #[] 0 (Nat.le_refl _) (by unfold maxLen;omega) rfl,za (fun hh=>absurd hh (by omega)),za (fun _=>⟨rfl,fun j h1 h2=>by omega⟩),(Ext.refl _).alloc _⟩
 case round =>
  obtain⟨k,m,l,hk,rfl,hm,rfl,hl,zco,zcr,hcut,zcq⟩:=hrel
  by_cases hle:k≤s.size
  ·have hle':(k:Int)≤(s.size:Int):=by omega
   have hm':(m:Int)≤(k:Int):=by omega
   have hCut:=za (hcut.out hle)
   clear hcut zcr
   by_cases he:k=s.size
   ·exact yP01a1
   ·have heq:((k:Int)==(s.size:Int))=false:=by rw [beq_eq_false_iff_ne];omega
    have hlt:k<s.size:=by omega
    have hb:=zT s k hlt
    cases hc:((s[k].toNat:Int)==32)
    ·have hmiss:=za (cut_miss (c:=32) hlt hc hCut.out.2)
     exact yP01a3
    ·have hstep:=za (cut_step (c:=32) hm hlt (cut_hit hc) hCut.out.2 hCut.out.1)
     exact yP01a2
  ·exact yP01a5
end Go.Proofs.YtfcjhpodichpjaaGreatDoor
